/-
  A general library: trimming: objects go, or become trees; epochs begin anew.
-/
import Derived.Test.YtfcbahfdgopgfaaKR5QSy2
set_option linter.unusedSimpArgs false
set_option linter.unusedVariables false
namespace Go.Abs

/-- what a cell becomes: n1 objects stay; e: their new epochs -/
inductive Trm (n1 : Nat) (σ : Heap) (e : Nat → Nat) : Cell → Cell → Prop
  | t (a : T) : Trm n1 σ e (.t a) (.t a)
  | ptr (r : Ref) (o : Obj) : r.id < n1 → σ[r.id]? = some o → o.ep = r.ep → Trm n1 σ e (.ptr r) (.ptr { r with ep := e r.id })
  | sl (r : Ref) (len : Nat) (cap : Option Nat) (o : Obj) : r.id < n1 → σ[r.id]? = some o → o.ep = r.ep → Trm n1 σ e (.sl r len cap) (.sl { r with ep := e r.id } len cap)
  | clo (f : FuncId) (rs : List Ref) : (∀ r ∈ rs, r.id < n1 ∧ ∃ o, σ[r.id]? = some o ∧ o.ep = r.ep) → Trm n1 σ e (.clo f rs) (.clo f (rs.map fun r => { r with ep := e r.id }))
  | frz (k : Nat) (c : Cell) (x : T) : frzT k σ n1 c = some x → Trm n1 σ e c (.t x)
  | junk (c : Cell) : Trm n1 σ e c (.t .junk)

def TrmL (n1 : Nat) (σ : Heap) (e : Nat → Nat) : List Cell → List Cell → Prop
  | [], [] => True
  | a :: as, b :: bs => Trm n1 σ e a b ∧ TrmL n1 σ e as bs
  | _, _ => False
theorem TrmL.length {n1 : Nat} {σ : Heap} {e : Nat → Nat} : ∀ {a b : List Cell}, TrmL n1 σ e a b → a.length = b.length
  | [], [], _ => rfl
  | _ :: _, _ :: _, h => by simp [TrmL.length h.2]
theorem TrmL.get {n1 : Nat} {σ : Heap} {e : Nat → Nat} : ∀ {a b : List Cell}, TrmL n1 σ e a b → ∀ {i : Nat} (hi : i < a.length) (hi' : i < b.length), Trm n1 σ e a[i] b[i]
  | _ :: _, _ :: _, h, 0, _, _ => h.1
  | _ :: _, _ :: _, h, i + 1, hi, hi' => TrmL.get h.2 (by simpa using hi) (by simpa using hi')

def TrmP (n1 : Nat) (σ : Heap) (e : Nat → Nat) : Cell ⊕ List Cell → Cell ⊕ List Cell → Prop
  | .inl a, .inl b => Trm n1 σ e a b
  | .inr a, .inr b => TrmL n1 σ e a b
  | _, _ => False
def TrmPL (n1 : Nat) (σ : Heap) (e : Nat → Nat) : List (Cell ⊕ List Cell) → List (Cell ⊕ List Cell) → Prop
  | [], [] => True
  | a :: as, b :: bs => TrmP n1 σ e a b ∧ TrmPL n1 σ e as bs
  | _, _ => False
theorem TrmPL.length {n1 : Nat} {σ : Heap} {e : Nat → Nat} : ∀ {a b : List (Cell ⊕ List Cell)}, TrmPL n1 σ e a b → a.length = b.length
  | [], [], _ => rfl
  | _ :: _, _ :: _, h => by simp [TrmPL.length h.2]
theorem TrmPL.get {n1 : Nat} {σ : Heap} {e : Nat → Nat} : ∀ {a b : List (Cell ⊕ List Cell)}, TrmPL n1 σ e a b → ∀ {i : Nat} (hi : i < a.length) (hi' : i < b.length), TrmP n1 σ e a[i] b[i]
  | _ :: _, _ :: _, h, 0, _, _ => h.1
  | _ :: _, _ :: _, h, i + 1, hi, hi' => TrmPL.get h.2 (by simpa using hi) (by simpa using hi')

def TrmV (n1 : Nat) (σ : Heap) (e : Nat → Nat) : AV → AV → Prop
  | .c a, .c b => Trm n1 σ e a b
  | .agg a, .agg b => TrmL n1 σ e a b
  | .tup a, .tup b => TrmPL n1 σ e a b
  | _, _ => False

/-- trimmed, then weaker -/
def Tw (n1 : Nat) (σ : Heap) (e : Nat → Nat) (c c' : Cell) : Prop := ∃ d, Trm n1 σ e c d ∧ WC d c'
def TwL (n1 : Nat) (σ : Heap) (e : Nat → Nat) (c c' : List Cell) : Prop := ∃ d, TrmL n1 σ e c d ∧ WL d c'
def TwV (n1 : Nat) (σ : Heap) (e : Nat → Nat) (c c' : AV) : Prop := ∃ d, TrmV n1 σ e c d ∧ WV d c'
theorem TwL.length {n1 : Nat} {σ : Heap} {e : Nat → Nat} {a b : List Cell} (h : TwL n1 σ e a b) : a.length = b.length := by
  obtain ⟨d, h1, h2⟩ := h; rw [h1.length, h2.length]

def reMap (n1 : Nat) (e : Nat → Nat) (ι : Map) : Map := ⟨fun id => if id < n1 then (ι id).map fun s => { s with ep := e id } else none, ι.res⟩

section
variable {P : Program} {N : Nat} {n0 n1 : Nat} {σ σ' : Heap} {e : Nat → Nat} {ι : Map} {w : World}

theorem reMap_some {id : Nat} {s : Spot} (h : reMap n1 e ι id = some s) : id < n1 ∧ ∃ s0, ι id = some s0 ∧ s = { s0 with ep := e id } := by
  simp only [reMap] at h
  split at h
  · rename_i hl
    rw [Option.map_eq_some_iff] at h
    obtain ⟨s0, h1, rfl⟩ := h
    exact ⟨hl, s0, h1, rfl⟩
  · cases h

theorem reMap_un {b : Nat} (h : ι.un b) : (reMap n1 e ι).un b := by
  rintro (⟨id, s, l, h1, h2, rfl⟩ | hr)
  · obtain ⟨_, s0, h3, rfl⟩ := reMap_some h1
    exact h (.inl ⟨id, s0, l, h3, h2, rfl⟩)
  · exact h (.inr hr)

theorem cut_re {b : Nat} (h : (cut n1 ι).un b) : (reMap n1 e ι).un b := by
  rintro (⟨id, s, l, h1, h2, rfl⟩ | hr)
  · obtain ⟨hl, s0, h3, rfl⟩ := reMap_some h1
    exact h (.inl ⟨id, s0, l, by simp only [cut, hl, if_true]; exact h3, h2, rfl⟩)
  · exact h (.inr hr)

theorem re_ref (hh : HR ι σ w) {r : Ref} {o : Obj} (hlt : r.id < n1) (ho : σ[r.id]? = some o) (hep : o.ep = r.ep) {ok : Spot → Prop} (hok : ∀ s k, ok s → ok { s with ep := k }) (h : refAt ι r ok) :
    refAt (reMap n1 e ι) { r with ep := e r.id } ok := by
  obtain ⟨s, h1, h2, h3⟩ := h
  obtain ⟨o', h4, h5, h6, _⟩ := hh.obj _ s h1
  rw [ho] at h4
  injection h4 with h4
  subst h4
  refine ⟨{ s with ep := e r.id }, by simp [reMap, hlt, h1], Nat.le_refl _, fun _ => hok s _ (h3 (by omega))⟩

theorem Trm.ok (hh : HR ι σ w) {c c' : Cell} (h : Trm n1 σ e c c') {v : Value} (hv : CR ι w c v) : CR (reMap n1 e ι) w c' v := by
  cases h with
  | t a => exact TR.mono hv fun b hb _ => ⟨reMap_un hb, rfl⟩
  | ptr r o h1 h2 h3 =>
    obtain ⟨a, rfl, h4⟩ := hv
    exact ⟨a, rfl, re_ref hh h1 h2 h3 (fun s k h => h) h4⟩
  | sl r len cap o h1 h2 h3 =>
    obtain ⟨a, c, rfl, h5, h4⟩ := hv
    exact ⟨a, c, rfl, h5, re_ref hh h1 h2 h3 (fun s k h => h) h4⟩
  | clo f rs h1 =>
    obtain ⟨arr, rfl, h2, h3⟩ := hv
    refine ⟨arr, rfl, by simpa using h2, fun i hi => ?_⟩
    have hi' : i < rs.length := by simpa using hi
    obtain ⟨a, h4, h5⟩ := h3 i hi'
    obtain ⟨h6, o, h7, h8⟩ := h1 _ (List.getElem_mem hi')
    refine ⟨a, h4, ?_⟩
    simp only [List.getElem_map]
    exact re_ref hh h6 h7 h8 (fun s k h => h) h5
  | frz k c x h1 => exact TR.mono (frzT_ok hh hv h1) fun b hb _ => ⟨cut_re hb, rfl⟩
  | junk c => exact TR.junk v (CR.oneCell hv)

theorem TrmV.ok (hh : HR ι σ w) {c c' : AV} (h : TrmV n1 σ e c c') {v : Value} (hv : VR ι w c v) : VR (reMap n1 e ι) w c' v := by
  cases c with
  | c a => cases c' with
    | c b => exact Trm.ok hh h hv
    | _ => exact h.elim
  | agg a => cases c' with
    | agg b =>
      have h' : TrmL n1 σ e a b := h
      obtain ⟨arr, rfl, h1, h2⟩ := hv
      refine ⟨arr, rfl, h1.trans h'.length, fun i hi => ?_⟩
      obtain ⟨u, h3, h4⟩ := h2 i (by rw [h'.length]; exact hi)
      exact ⟨u, h3, (h'.get _ hi).ok hh h4⟩
    | _ => exact h.elim
  | tup a => cases c' with
    | tup b =>
      have h' : TrmPL n1 σ e a b := h
      obtain ⟨arr, rfl, h1, h2⟩ := hv
      refine ⟨arr, rfl, h1.trans h'.length, fun i hi => ?_⟩
      obtain ⟨u, h3, h4⟩ := h2 i (by rw [h'.length]; exact hi)
      refine ⟨u, h3, ?_⟩
      have hp := h'.get (by rw [h'.length]; exact hi) hi
      generalize a[i]'(by rw [h'.length]; exact hi) = x at h4 hp
      generalize b[i] = y at hp
      cases x with
      | inl x => cases y with
        | inl y => exact Trm.ok hh hp h4
        | inr y => exact hp.elim
      | inr x => cases y with
        | inl y => exact hp.elim
        | inr y =>
          have hp' : TrmL n1 σ e x y := hp
          obtain ⟨arr, rfl, h1, h2⟩ := h4
          refine ⟨arr, rfl, h1.trans hp'.length, fun i hi => ?_⟩
          obtain ⟨u, h3, h4⟩ := h2 i (by rw [hp'.length]; exact hi)
          exact ⟨u, h3, (hp'.get _ hi).ok hh h4⟩
    | _ => exact h.elim

theorem ghost_trim {r r' : Regs} (hn : n0 ≤ n1) (hlen : σ'.length = n1) (he : ∀ id o, id < n0 → σ[id]? = some o → e id = o.ep)
    (hσ : ∀ id o', σ'[id]? = some o' → ∃ o, σ[id]? = some o ∧ TwL n1 σ e o.cs o'.cs ∧ o'.es = o.es ∧ o'.ep = e id)
    (hr : ∀ t v', r'.get t = some v' → ∃ v, r.get t = some v ∧ TwV n1 σ e v v') : GhostF N n0 r σ r' σ' := fun ι w a hh ha => by
  refine ⟨reMap n1 e ι, ⟨fun id s' hs' => ?_, fun id id' s s' l l' h1 h2 h3 h4 h5 => ?_, hh.resRow, fun id s l h1 h2 => ?_⟩, ⟨ha.size, fun t v' hv' => ?_⟩, fun ι0 σ0 w0 h0 hn0 hs => ?_⟩
  · obtain ⟨hlt, s, hs, rfl⟩ := reMap_some hs'
    have hlt' : id < σ'.length := by omega
    obtain ⟨o, h1, h2, h3, h4⟩ := hσ id σ'[id] (List.getElem?_eq_getElem hlt')
    refine ⟨σ'[id], List.getElem?_eq_getElem hlt', ?_⟩
    obtain ⟨o2, h5, h6, h7, h8⟩ := hh.obj id s hs
    rw [h1] at h5
    injection h5 with h5
    subst h5
    refine ⟨h3.trans h6, h4, ?_⟩
    show match s.loc with | none => _ | some l => _
    cases hl : s.loc with
    | none => rw [hl] at h8; have h8' : o.cs = [] := h8; rw [h8'] at h2; exact List.length_eq_zero_iff.1 h2.length.symm
    | some l =>
      rw [hl] at h8
      obtain ⟨h9, h10, h11⟩ := h8
      refine ⟨h9, by rw [← h2.length]; exact h10, fun i hi => ?_⟩
      obtain ⟨v, h12, h13⟩ := h11 i (by rw [h2.length]; exact hi)
      obtain ⟨d, h2a, h2b⟩ := h2
      exact ⟨v, h12, CR.weak (h2b.get (by rw [h2b.length]; exact hi) hi) ((h2a.get (by rw [h2a.length, h2b.length]; exact hi) (by rw [h2b.length]; exact hi)).ok hh h13)⟩
  · obtain ⟨_, s0, h6, rfl⟩ := reMap_some h1
    obtain ⟨_, s1, h7, rfl⟩ := reMap_some h2
    exact hh.inj id id' s0 s1 l l' h6 h7 h3 h4 h5
  · obtain ⟨_, s0, h6, rfl⟩ := reMap_some h1
    exact hh.resNo id s0 l h6 h2
  · obtain ⟨v, h1, h2⟩ := hr t v' hv'
    obtain ⟨d, h2a, h2b⟩ := h2
    exact VR.weak h2b (h2a.ok hh (ha.get t v h1))
  · exact {
      len := by omega
      size := hs.size
      os := hs.os
      out := hs.out
      keep := fun id s h1 => by
        obtain ⟨s', h2, h3, h4⟩ := hs.keep id s h1
        have hlt := h0.lt h1
        obtain ⟨o, h5, _, h6, _⟩ := hh.obj id s' h2
        have he' := he id o (by omega) h5
        have e1 : ({ s' with ep := e id } : Spot) = s' := by rw [he', h6]
        refine ⟨s', ?_, h3, h4⟩
        have : id < n1 := by omega
        simp only [reMap, this, if_true, h2, Option.map_some, e1]
      none := fun id hid h1 => by
        have := hs.none id hid h1
        simp only [reMap, this, Option.map_none, ite_self]
      new := fun id s' l' h1 h2 => by
        obtain ⟨_, s0, h3, rfl⟩ := reMap_some h1
        exact hs.new id s0 l' h3 h2
      res := hs.res
      resKeep := hs.resKeep
      frame := hs.frame }

/-! ### the order of the objects -/
def prRef (π : Nat → Nat) (r : Ref) : Ref := { r with id := π r.id }
def prC (π : Nat → Nat) : Cell → Cell
  | .t a => .t a
  | .ptr r => .ptr (prRef π r)
  | .sl r l c => .sl (prRef π r) l c
  | .clo f rs => .clo f (rs.map (prRef π))
def prV (π : Nat → Nat) : AV → AV
  | .c a => .c (prC π a)
  | .agg a => .agg (a.map (prC π))
  | .tup a => .tup (a.map fun | .inl x => .inl (prC π x) | .inr xs => .inr (xs.map (prC π)))

/-- π: where an object goes; ρ: where it came from -/
structure Perm (n0 len : Nat) (π ρ : Nat → Nat) : Prop where
  fix : ∀ id, id < n0 → π id = id ∧ ρ id = id
  lt : ∀ id, id < len → π id < len ∧ ρ id < len
  pr : ∀ id, id < len → ρ (π id) = id
  rp : ∀ id, id < len → π (ρ id) = id

def prMap (len : Nat) (ρ : Nat → Nat) (ι : Map) : Map := ⟨fun id => if id < len then ι (ρ id) else none, ι.res⟩

theorem ghost_perm {r : Regs} {π ρ : Nat → Nat} (hn : n0 ≤ σ.length) (hp : Perm n0 σ.length π ρ) :
    GhostF N n0 r σ (r.map fun x => (x.1, prV π x.2)) ((List.range σ.length).map fun i => let o := (σ[ρ i]?).getD default; { o with cs := o.cs.map (prC π) }) := fun ι w a hh ha => by
  have href : ∀ {q : Ref} {ok : Spot → Prop}, refAt ι q ok → refAt (prMap σ.length ρ ι) (prRef π q) ok := fun {q ok} ⟨s, h1, h2, h3⟩ => by
    have hlt := hh.lt h1
    exact ⟨s, by simp only [prMap, prRef, (hp.lt _ hlt).1, if_true, hp.pr _ hlt]; exact h1, h2, h3⟩
  have hun : ∀ b, ι.un b → (prMap σ.length ρ ι).un b := fun b hb => by
    rintro (⟨id, s, l, h1, h2, rfl⟩ | hr)
    · simp only [prMap] at h1
      split at h1
      · exact hb (.inl ⟨_, s, l, h1, h2, rfl⟩)
      · cases h1
    · exact hb (.inr hr)
  have hC : ∀ {c : Cell} {v : Value}, CR ι w c v → CR (prMap σ.length ρ ι) w (prC π c) v := fun {c v} hv => by
    cases c with
    | t x => exact TR.mono hv fun b hb _ => ⟨hun b hb, rfl⟩
    | ptr q => obtain ⟨a, rfl, h1⟩ := hv; exact ⟨a, rfl, href h1⟩
    | sl q l c => obtain ⟨a, c, rfl, h0, h1⟩ := hv; exact ⟨a, c, rfl, h0, href h1⟩
    | clo f rs =>
      obtain ⟨arr, rfl, h1, h2⟩ := hv
      refine ⟨arr, rfl, by simpa using h1, fun i hi => ?_⟩
      obtain ⟨a, h3, h4⟩ := h2 i (by simpa using hi)
      refine ⟨a, h3, ?_⟩
      simp only [List.getElem_map]
      exact href h4
  refine ⟨prMap σ.length ρ ι, ⟨fun id s hs => ?_, fun id id' s s' l l' h1 h2 h3 h4 h5 => ?_, hh.resRow, fun id s l h1 h2 => ?_⟩, ⟨ha.size, fun t v' hv' => ?_⟩, fun ι0 σ0 w0 h0 hn0 hs => ?_⟩
  · simp only [prMap] at hs
    split at hs
    · rename_i hlt
      obtain ⟨o, h1, h2, h3, h4⟩ := hh.obj _ s hs
      refine ⟨{ o with cs := o.cs.map (prC π) }, by simp [hlt, h1], h2, h3, ?_⟩
      cases hl : s.loc with
      | none => rw [hl] at h4; have h4' : o.cs = [] := h4; simp [h4']
      | some l =>
        rw [hl] at h4
        refine ⟨h4.1, by simpa using h4.2.1, fun i hi => ?_⟩
        obtain ⟨v, h5, h6⟩ := h4.2.2 i (by simpa using hi)
        refine ⟨v, h5, ?_⟩
        simp only [List.getElem_map]
        exact hC h6
    · cases hs
  · simp only [prMap] at h1 h2
    split at h1
    · rename_i hl1
      split at h2
      · rename_i hl2
        have := hh.inj _ _ s s' l l' h1 h2 h3 h4 h5
        rw [← hp.rp id hl1, ← hp.rp id' hl2, this]
      · cases h2
    · cases h1
  · simp only [prMap] at h1
    split at h1
    · exact hh.resNo _ s l h1 h2
    · cases h1
  · have : ∀ {l : Regs}, Regs.get (l.map fun x => (x.1, prV π x.2)) t = some v' → ∃ v, l.get t = some v ∧ v' = prV π v := fun {l} => by
      induction l with
      | nil => intro h; simp [Regs.get] at h
      | cons p l ih =>
        intro h
        simp only [List.map_cons, Regs.get] at h ⊢
        split at h
        · injection h with h; rename_i e; exact ⟨p.2, by simp [e], h.symm⟩
        · rename_i e
          obtain ⟨v, h1, h2⟩ := ih h
          exact ⟨v, by simp [e, h1], h2⟩
    obtain ⟨v, h1, rfl⟩ := this hv'
    have hv := ha.get t v h1
    cases v with
    | c x => exact hC hv
    | agg xs => exact aggR_map (fun c v => hC) hv
    | tup xs =>
      obtain ⟨arr, h2, h3, h4⟩ := hv
      refine ⟨arr, h2, by simpa using h3, fun i hi => ?_⟩
      obtain ⟨u, h5, h6⟩ := h4 i (by simpa using hi)
      refine ⟨u, h5, ?_⟩
      simp only [List.getElem_map]
      generalize xs[i]'(by simpa using hi) = y at h6 ⊢
      cases y with
      | inl x => exact hC h6
      | inr xs => exact aggR_map (fun c v => hC) h6
  · exact {
      len := by simp; omega
      size := hs.size
      os := hs.os
      out := hs.out
      keep := fun id s h1 => by
        obtain ⟨s', h2, h3⟩ := hs.keep id s h1
        have hlt := h0.lt h1
        refine ⟨s', ?_, h3⟩
        have hl : id < σ.length := by omega
        simp only [prMap, hl, if_true, (hp.fix id (by omega)).2, h2]
      none := fun id hid h1 => by
        have hl : id < σ.length := by omega
        simp only [prMap, hl, if_true, (hp.fix id (by omega)).2]
        exact hs.none id hid h1
      new := fun id s' l' h1 h2 => by
        simp only [prMap] at h1
        split at h1
        · exact hs.new _ s' l' h1 h2
        · cases h1
      res := hs.res
      resKeep := hs.resKeep
      frame := hs.frame }

end
end Go.Abs
