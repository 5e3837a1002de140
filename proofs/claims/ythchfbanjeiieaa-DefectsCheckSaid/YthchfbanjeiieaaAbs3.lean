/-
  A general library: each operation of the abstract heap is what the machine does. Part 1: values.
-/
import Derived.Test.YthchfbanjeiieaaAbs2
set_option linter.unusedSimpArgs false
set_option linter.unusedVariables false
namespace Go.Abs

structure RegR (N : Nat) (ι : Map) (w : World) (r : Regs) (a : Act) : Prop where
  size : a.tmps.size = N
  get : ∀ t x, r.get t = some x → VR ι w x (a.tmps.getD t undef)

theorem RegR.step {N : Nat} {ι ι' : Map} {σ σ' : Heap} {w w' : World} {r : Regs} {a : Act} (hs : Step ι σ w ι' σ' w') (h : RegR N ι w r a) : RegR N ι' w' r a :=
  ⟨h.size, fun t x hx => (h.get t x hx).step hs⟩

theorem Regs.get_set_same (r : Regs) (t : Nat) (v : AV) : (r.set t v).get t = some v := by
  induction r with
  | nil => simp [Regs.set, Regs.get]
  | cons p r ih => obtain ⟨k, u⟩ := p; by_cases h : k = t <;> simp [Regs.set, Regs.get, h, ih]

theorem Regs.get_set_ne (r : Regs) {t t' : Nat} (v : AV) (h : t ≠ t') : (r.set t v).get t' = r.get t' := by
  induction r with
  | nil => simp [Regs.set, Regs.get, h]
  | cons p r ih =>
    obtain ⟨k, u⟩ := p
    by_cases h1 : k = t
    · subst h1; simp [Regs.set, Regs.get, h]
    · by_cases h2 : k = t'
      · subst h2; simp [Regs.set, Regs.get, h1]
      · simp [Regs.set, Regs.get, h1, h2, ih]

theorem Regs.get_del_same (r : Regs) (t : Nat) : (r.del t).get t = none := by
  induction r with
  | nil => rfl
  | cons p r ih => obtain ⟨k, u⟩ := p; by_cases h : k = t <;> simp [Regs.del, Regs.get, h, ih]

theorem Regs.get_del_ne (r : Regs) {t t' : Nat} (h : t ≠ t') : (r.del t).get t' = r.get t' := by
  induction r with
  | nil => rfl
  | cons p r ih =>
    obtain ⟨k, u⟩ := p
    by_cases h1 : k = t
    · subst h1; simp [Regs.del, Regs.get, h, ih]
    · by_cases h2 : k = t'
      · subst h2; simp [Regs.del, Regs.get, h1]
      · simp [Regs.del, Regs.get, h1, h2, ih]

theorem getD_set_same (arr : Array Value) (d : Nat) (v : Value) (h : d < arr.size) : (arr.setIfInBounds d v).getD d undef = v := by
  simp [h]
theorem getD_set_ne (arr : Array Value) {d t : Nat} (v : Value) (h : d ≠ t) : (arr.setIfInBounds d v).getD t undef = arr.getD t undef := by
  simp [Array.getElem?_setIfInBounds_ne h]

theorem RegR.put {N : Nat} {ι : Map} {w : World} {r : Regs} {a : Act} (h : RegR N ι w r a) {dst : Option Nat} (hd : ∀ d, dst = some d → d < N) {x : AV} {v : Value} (hv : VR ι w x v) :
    RegR N ι w (r.put dst x) (a.put dst v) := by
  cases dst with
  | none => exact h
  | some d =>
    refine ⟨by simp [Act.put, h.size], fun t y hy => ?_⟩
    by_cases e : d = t
    · subst e
      simp only [Regs.put, Regs.get_set_same, Option.some.injEq] at hy
      subst hy
      simp only [Act.put]
      rw [getD_set_same _ _ _ (by rw [h.size]; exact hd d rfl)]
      exact hv
    · simp only [Regs.put, Regs.get_set_ne _ _ e] at hy
      simp only [Act.put]
      rw [getD_set_ne _ _ e]
      exact h.get t y hy

theorem RegR.drop {N : Nat} {ι : Map} {w : World} {r : Regs} {a : Act} (h : RegR N ι w r a) (dst : Option Nat) : RegR N ι w (r.drop dst) (a.put dst undef) := by
  cases dst with
  | none => exact h
  | some d =>
    refine ⟨by simp [Act.put, h.size], fun t y hy => ?_⟩
    by_cases e : d = t
    · subst e
      simp only [Regs.drop, Regs.get_set_same, Option.some.injEq] at hy
      subst hy
      have : (a.put (some d) undef).tmps.getD d undef = undef := by
        simp only [Act.put, Array.getD_eq_getD_getElem?, Array.getElem?_setIfInBounds, if_true]
        split <;> rfl
      rw [this]
      exact ⟨#[], rfl, rfl, fun i hi => absurd hi (by simp)⟩
    · simp only [Regs.drop, Regs.get_set_ne _ _ e] at hy
      simp only [Act.put]
      rw [getD_set_ne _ _ e]
      exact h.get t y hy

/-! ### constants -/
theorem tOf_ok {U : Nat → Prop} {w : World} {v : Value} {t : T} (h : tOf v = some t) : TR U w t v := by
  unfold tOf at h
  split at h <;> first | (injection h with h; subst h) | cases h
  · exact .bool _
  · exact .int _ _
  · exact .str _
  · exact .nilp
  · exact .imm0 _ _ _ rfl
  · exact .nilf

theorem tOfCell_ok {U : Nat → Prop} {w : World} {v : Value} {t : T} (h : tOfCell v = some t) : TR U w t v := by
  unfold tOfCell at h
  split at h
  · rename_i t' ht'
    injection h with h
    subst h
    exact tOf_ok ht'
  · split at h
    · rename_i hv
      injection h with h
      subst h
      exact .junk _ hv
    · cases h

theorem tsOf_ok {U : Nat → Prop} {w : World} : ∀ {vs : List Value} {ts : List T}, tsOf vs = some ts → ts.length = vs.length ∧ ∀ i (h : i < ts.length), ∃ u, vs[i]? = some u ∧ TR U w ts[i] u
  | [], ts, h => by
    simp only [tsOf, Option.some.injEq] at h
    subst h
    exact ⟨rfl, fun i hi => absurd hi (by simp)⟩
  | v :: vs, ts, h => by
    simp only [tsOf] at h
    split at h
    · rename_i t ts' h1 h2
      injection h with h
      subst h
      obtain ⟨h3, h4⟩ := tsOf_ok (U := U) (w := w) h2
      refine ⟨by simp [h3], fun i hi => ?_⟩
      cases i with
      | zero => exact ⟨v, rfl, tOfCell_ok h1⟩
      | succ i => exact h4 i (by simpa using hi)
    · cases h

theorem aggR_ts {ι : Map} {w : World} {vs : Array Value} {ts : List T} (h : tsOf vs.toList = some ts) : aggR ι w (ts.map .t) (.agg vs) := by
  obtain ⟨h1, h2⟩ := tsOf_ok (U := ι.un) (w := w) h
  refine ⟨vs, rfl, by simpa using h1.symm, fun i hi => ?_⟩
  obtain ⟨u, h3, h4⟩ := h2 i (by simpa using hi)
  exact ⟨u, by simpa using h3, by simpa [CR] using h4⟩

theorem constAV_ok {ι : Map} {w : World} {v : Value} {x : AV} (h : constAV v = some x) : VR ι w x v := by
  unfold constAV at h
  split at h
  · simp only [Option.map_eq_some_iff] at h
    obtain ⟨ts, h1, rfl⟩ := h
    exact aggR_ts h1
  · simp only [Option.map_eq_some_iff] at h
    obtain ⟨t, h1, rfl⟩ := h
    exact tOf_ok h1

theorem ev_ok {N : Nat} {ι : Map} {w : World} {r : Regs} {a : Act} (hr : RegR N ι w r a) {x : Operand} {v : AV} (h : ev r x = some v) : VR ι w v (a.eval x) := by
  cases x with
  | tmp t => exact hr.get t v h
  | const c => exact constAV_ok h
  | func f =>
    simp only [ev, Option.some.injEq] at h
    subst h
    exact TR.fn f [] #[] rfl (fun i hi => absurd hi (by simp))
  | global g => simp [ev] at h

theorem evl_ok {N : Nat} {ι : Map} {w : World} {r : Regs} {a : Act} (hr : RegR N ι w r a) : ∀ {xs : List Operand} {vs : List AV}, evl r xs = some vs →
    vs.length = xs.length ∧ ∀ i (h : i < vs.length), ∃ x, xs[i]? = some x ∧ VR ι w vs[i] (a.eval x)
  | [], vs, h => by
    simp only [evl, Option.some.injEq] at h
    subst h
    exact ⟨rfl, fun i hi => absurd hi (by simp)⟩
  | x :: xs, vs, h => by
    simp only [evl] at h
    split at h
    · rename_i v vs' h1 h2
      injection h with h
      subst h
      obtain ⟨h3, h4⟩ := evl_ok hr h2
      refine ⟨by simp [h3], fun i hi => ?_⟩
      cases i with
      | zero => exact ⟨x, rfl, ev_ok hr h1⟩
      | succ i => exact h4 i (by simpa using hi)
    · cases h

/-! ### types -/
theorem tinf_ok {P : Program} {t : TypeId} {i : TInf} (h : tinf P t = some i) : ∃ d inf, P.underlying t = some d ∧ P.info? t = some inf ∧ i.kind = kindOf d ∧ i.size = inf.size ∧ i.bytes = inf.bytes ∧
    i.zero = inf.zero.bind fun v => tsOf v.cells.toList := by
  unfold tinf at h
  split at h
  · rename_i d inf h1 h2
    injection h with h
    subst h
    exact ⟨d, inf, h1, h2, rfl, rfl, rfl, rfl⟩
  · cases h

theorem tinf_size {P : Program} {t : TypeId} {i : TInf} (h : tinf P t = some i) (w : World) : (sizeOf t).run P w = .ok i.size w := by
  obtain ⟨d, inf, h1, h2, h3, h4, h5, h6⟩ := tinf_ok h
  simp [sizeOf, typeInfo, h2, h4]

theorem tinf_info {P : Program} {t : TypeId} {i : TInf} (h : tinf P t = some i) (w : World) : ∃ inf, (typeInfo t).run P w = .ok inf w ∧ inf.bytes = i.bytes ∧ inf.size = i.size ∧ P.info? t = some inf := by
  obtain ⟨d, inf, h1, h2, h3, h4, h5, h6⟩ := tinf_ok h
  exact ⟨inf, by simp [typeInfo, h2], h5.symm, h4.symm, h2⟩

theorem tinf_und {P : Program} {t : TypeId} {i : TInf} (h : tinf P t = some i) (w : World) : ∃ d, (underlying t).run P w = .ok d w ∧ i.kind = kindOf d ∧ P.underlying t = some d := by
  obtain ⟨d, inf, h1, h2, h3, h4, h5, h6⟩ := tinf_ok h
  exact ⟨d, run_underlying h1 w, h3, h1⟩

theorem tinf_agg {P : Program} {t : TypeId} {i : TInf} (h : tinf P t = some i) (w : World) : (isAgg t).run P w = .ok i.isAgg w := by
  obtain ⟨d, h1, h2, _⟩ := tinf_und h w
  simp only [isAgg, Sem.run_bind, h1, Result.andThen_ok, TInf.isAgg, h2]
  cases d <;> simp [kindOf]

theorem tinf_zero {P : Program} {t : TypeId} {i : TInf} (h : tinf P t = some i) {z : List T} (hz : i.zero = some z) (w : World) :
    ∃ v, (zeroValue t).run P w = .ok v w ∧ tsOf v.cells.toList = some z := by
  obtain ⟨d, inf, h1, h2, h3, h4, h5, h6⟩ := tinf_ok h
  rw [hz] at h6
  cases h7 : inf.zero with
  | none => simp [h7] at h6
  | some v =>
    simp only [h7, Option.bind_some] at h6
    exact ⟨v, by simp [zeroValue, typeInfo, h2, h7], h6.symm⟩

theorem add_mk (b o n : Nat) : (⟨b, o, none⟩ : Addr).add n = ⟨b, o + n, none⟩ := by
  unfold Addr.add
  split <;> simp_all

theorem exists_list (p : Nat → Value → Prop) : ∀ (n : Nat), (∀ i, i < n → ∃ v, p i v) → ∃ vs : List Value, vs.length = n ∧ ∀ i v, vs[i]? = some v → p i v
  | 0, _ => ⟨[], rfl, fun i v h => by simp at h⟩
  | n + 1, h => by
    obtain ⟨vs, h1, h2⟩ := exists_list p n (fun i hi => h i (by omega))
    obtain ⟨v, hv⟩ := h n (by omega)
    refine ⟨vs ++ [v], by simp [h1], fun i u hu => ?_⟩
    by_cases hi : i < vs.length
    · rw [List.getElem?_append_left hi] at hu
      exact h2 i u hu
    · rw [List.getElem?_append_right (by omega)] at hu
      have : i = n := by
        have h3 : i - vs.length < [v].length := (List.getElem?_eq_some_iff.1 hu).1
        simp only [List.length_singleton] at h3
        omega
      subst this
      have e0 : i - vs.length = 0 := by omega
      rw [e0] at hu
      simp only [List.getElem?_cons_zero, Option.some.injEq] at hu
      exact hu ▸ hv

/-- a row of cells in memory -/
def rowR (ι : Map) (w : World) (b off : Nat) (cs : List Cell) : Prop := ∀ i (h : i < cs.length), ∃ v, w.cell? ⟨b, off + i, none⟩ = some v ∧ CR ι w cs[i] v

theorem rowR.drop {ι : Map} {w : World} {b off : Nat} {cs : List Cell} (h : rowR ι w b off cs) (n : Nat) : rowR ι w b (off + n) (cs.drop n) := fun i hi => by
  have hi' : n + i < cs.length := by simp at hi; omega
  obtain ⟨v, h1, h2⟩ := h (n + i) hi'
  exact ⟨v, by rw [← h1, Nat.add_assoc], by simpa using h2⟩

theorem rowR.take {ι : Map} {w : World} {b off : Nat} {cs : List Cell} (h : rowR ι w b off cs) (n : Nat) : rowR ι w b off (cs.take n) := fun i hi => by
  have hi' : i < cs.length := by simp at hi; omega
  obtain ⟨v, h1, h2⟩ := h i hi'
  exact ⟨v, h1, by simpa using h2⟩

theorem rowR.list {ι : Map} {w : World} {b off : Nat} {cs : List Cell} (h : rowR ι w b off cs) :
    ∃ vs : List Value, vs.length = cs.length ∧ (∀ j v, vs[j]? = some v → w.cell? ((⟨b, off, none⟩ : Addr).add j) = some v) ∧ ∀ i (hi : i < cs.length), ∃ u, vs[i]? = some u ∧ CR ι w cs[i] u := by
  obtain ⟨vs, h1, h2⟩ := exists_list (fun i v => ∃ hi : i < cs.length, w.cell? ⟨b, off + i, none⟩ = some v ∧ CR ι w cs[i] v) cs.length (fun i hi => let ⟨v, h3, h4⟩ := h i hi; ⟨v, hi, h3, h4⟩)
  refine ⟨vs, h1, fun j v hv => ?_, fun i hi => ?_⟩
  · obtain ⟨hi, h3, h4⟩ := h2 j v hv
    rw [add_mk]; exact h3
  · have hlt : i < vs.length := by omega
    obtain ⟨hi', h3, h4⟩ := h2 i vs[i] (by simp [hlt])
    exact ⟨vs[i], by simp [hlt], h4⟩

theorem rowR.loadCells {ι : Map} {w : World} {b off : Nat} {cs : List Cell} (h : rowR ι w b off cs) (P : Program) {n : Nat} (hn : n = cs.length) :
    ∃ vs : List Value, vs.length = cs.length ∧ (Go.loadCells ⟨b, off, none⟩ n).run P w = .ok vs.toArray w ∧ aggR ι w cs (.agg vs.toArray) ∧ ∀ i (hi : i < cs.length), ∃ u, vs[i]? = some u ∧ CR ι w cs[i] u := by
  obtain ⟨vs, h1, h2, h3⟩ := h.list
  refine ⟨vs, h1, ?_, ⟨vs.toArray, rfl, by simp [h1], fun i hi => ?_⟩, h3⟩
  · have := run_loadCells_list (P := P) (w := w) ⟨b, off, none⟩ vs h2
    rw [hn, ← h1]; exact this
  · obtain ⟨u, h4, h5⟩ := h3 i hi
    exact ⟨u, by simpa using h4, h5⟩

/-- what load reads of a row -/
theorem loadC_ok {P : Program} {t : TypeId} {i : TInf} (ht : tinf P t = some i) {ι : Map} {w : World} {b off : Nat} {cs : List Cell} (h : rowR ι w b off cs) {x : AV} (hx : loadC i cs = some x) :
    ∃ v, (Instr.loadAt t (.pointer (some ⟨b, off, none⟩))).run P w = .ok v w ∧ VR ι w x v := by
  unfold loadC at hx
  have ha := tinf_agg ht w
  have hz := tinf_size ht w
  cases hagg : i.isAgg with
  | true =>
    simp only [hagg, if_true] at hx
    split at hx
    · rename_i hle
      injection hx with hx
      subst hx
      obtain ⟨vs, h1, h2, h3, _⟩ := (h.take i.size).loadCells P (n := i.size) (by simp; omega)
      rw [hagg] at ha
      exact ⟨.agg vs.toArray, by simp [Instr.loadAt, Instr.sureAddr, loadVar, ha, hz, h2], h3⟩
    · cases hx
  | false =>
    simp only [hagg] at hx
    rw [hagg] at ha
    cases cs with
    | nil => simp at hx
    | cons c cs =>
      simp only [Bool.false_eq_true, if_false, Option.some.injEq] at hx
      subst hx
      obtain ⟨v, h1, h2⟩ := h 0 (by simp)
      exact ⟨v, by simp only [Nat.add_zero] at h1; simp [Instr.loadAt, Instr.sureAddr, loadVar, ha, h1], h2⟩

theorem HR.ref {ι : Map} {σ : Heap} {w : World} (h : HR ι σ w) {r : Ref} {o : Obj} (ho : σ.at? r = some o) {ok : Spot → Prop} (hr : refAt ι r ok) :
    ∃ s, ι r.id = some s ∧ σ[r.id]? = some o ∧ o.ep = r.ep ∧ OR ι w o s ∧ ok s := by
  unfold Heap.at? at ho
  cases h1 : σ[r.id]? with
  | none => simp [h1] at ho
  | some o' =>
    simp only [h1] at ho
    split at ho
    · rename_i hep
      injection ho with ho
      subst ho
      obtain ⟨s, h2, h3, h4⟩ := hr
      obtain ⟨o'', h5, h6⟩ := h.obj _ _ h2
      rw [h1] at h5
      injection h5 with h5
      subst h5
      exact ⟨s, h2, rfl, hep, h6, h4 (by rw [← hep]; exact h6.2.1)⟩
    · cases ho

theorem OR.row {ι : Map} {w : World} {o : Obj} {s : Spot} {l : Loc} (h : OR ι w o s) (hl : s.loc = some l) : rowR ι w l.blk l.sh o.cs := by
  obtain ⟨_, _, h3⟩ := h
  rw [hl] at h3
  exact h3.2.2

theorem iptr_row {ι : Map} {w : World} {cs : List T} {v : Value} (h : TR ι.un w (.iptr cs) v) : ∃ b off, v = .pointer (some ⟨b, off, none⟩) ∧ ι.un b ∧ isRow w b ∧ rowR ι w b off (cs.map .t) := by
  cases h with
  | iptr cs b off f h1 h2 h3 h4 =>
    refine ⟨b, off, rfl, h1, h2, fun i hi => ⟨f i, h3 i (by simpa using hi), ?_⟩⟩
    have := h4 i (by simpa using hi)
    simpa [CR] using this

theorem loadE_ok {P : Program} {t : TypeId} {i : TInf} (ht : tinf P t = some i) {ι : Map} {σ : Heap} {w : World} (h : HR ι σ w) {a x : AV} {v : Value} (ha : VR ι w a v) (hx : loadE σ i a = some x) :
    ∃ u, (Instr.loadAt t v).run P w = .ok u w ∧ VR ι w x u := by
  unfold loadE at hx
  split at hx
  · rename_i r
    split at hx
    · rename_i o ho
      obtain ⟨ad, rfl, hr⟩ := ha
      obtain ⟨s, _, _, _, hor, l, hl, e⟩ := h.ref ho hr
      injection e with e
      subst e
      have := (hor.row hl).drop r.off
      exact loadC_ok ht this hx
    · cases hx
  · rename_i cs
    obtain ⟨b, off, rfl, _, _, hrow⟩ := iptr_row ha
    exact loadC_ok ht hrow hx
  · cases hx

end Go.Abs
