/-
  A general library: each operation of the abstract heap is what the machine does. Part 8: append and copy.
-/
import Derived.Test.YthchfbanjeiieaaAbs9
set_option linter.unusedSimpArgs false
set_option linter.unusedVariables false
namespace Go.Abs

section
variable {P : Program} {ι : Map} {σ : Heap} {w : World}

theorem bytes_take (s : List UInt8) (n : Nat) : (((⟨s.toArray⟩ : ByteArray).extract 0 n).data.map fun b => Value.int .u8 b.toNat) = ((s.take n).map fun b : UInt8 => Value.int .u8 b.toNat).toArray := by
  rw [bytes_extract]
  simp

/-- the first elements of a slice or a string -/
theorem firstE_ok (h : HR ι σ w) {es n : Nat} {x : AV} {new : List Cell} (hf : firstE σ es n x = some new) {v : Value} (hx : VR ι w x v) :
    new.length = n * es ∧ ∃ vs : List Value, cellsR ι w new vs.toArray ∧ ∀ w2 : World, w2.heap = w.heap → (Builtin.firstCells es n v).run P w2 = .ok vs.toArray w2 := by
  unfold firstE at hf
  split at hf
  · rename_i r len cap
    split at hf
    · rename_i o ho
      split at hf
      · rename_i hc
        injection hf with hf
        subst hf
        obtain ⟨a, c, rfl, hsome, hr⟩ := hx
        obtain ⟨s, hs, ho', hep, hor, hok⟩ := h.ref ho hr
        have hlen : ((o.cs.drop r.off).take (n * es)).length = n * es := by simp; omega
        refine ⟨hlen, ?_⟩
        by_cases h0 : n * es = 0
        · have e : (o.cs.drop r.off).take (n * es) = [] := by rw [h0]; simp
          rw [e]
          refine ⟨[], ⟨rfl, fun i hi => absurd hi (by simp)⟩, fun w2 _ => ?_⟩
          cases a with
          | none => simp [Builtin.firstCells]
          | some a => simp [Builtin.firstCells, h0, loadCells, loadCellsFrom]
        · obtain ⟨h1, h2, h3⟩ := hok
          cases hl : s.loc with
          | none =>
            have hz := hor.2.2
            rw [hl] at hz
            rw [hz] at hc
            simp at hc
            exact absurd hc.1.2 h0
          | some l =>
            rw [hl] at h3
            obtain ⟨rfl, _⟩ := h3
            have hrow := ((hor.row hl).drop r.off).take (n * es)
            obtain ⟨vs, h4, h5, h6⟩ := hrow.list
            refine ⟨vs, ⟨by simpa using h4, fun i hi => by simpa using h6 i hi⟩, fun w2 hw2 => ?_⟩
            refine run_firstCells_some w2 es n _ len c vs (by rw [h4]; exact hlen) (fun j v hv => ?_)
            have := h5 j v hv
            rw [add_mk] at this ⊢
            rw [← this]; exact cell_congr (by rw [hw2]) _
      · cases hf
    · cases hf
  · rename_i cs len cap
    split at hf
    · rename_i hc
      injection hf with hf
      subst hf
      have hlen : ((cs.take (n * es)).map Cell.t).length = n * es := by
        have : n * es ≤ len * es := Nat.mul_le_mul_right _ hc.1
        simp; omega
      refine ⟨hlen, ?_⟩
      cases hx with
      | imm0 cap a c hcap =>
        refine ⟨[], ⟨by simp, fun i hi => absurd hi (by simp)⟩, fun w2 _ => ?_⟩
        have hn0 : n = 0 := by omega
        subst hn0
        cases a with
        | none => simp [Builtin.firstCells]
        | some a => simp [Builtin.firstCells, loadCells, loadCellsFrom]
      | imm cs len cap b off c f h1 h2 hcp hle h3 h4 =>
        have hrow : rowR ι w b off ((cs.take (n * es)).map Cell.t) := fun i hi => by
          have hi' : i < cs.length := by simp at hi; omega
          refine ⟨f i, h3 i hi', ?_⟩
          have := h4 i hi'
          simpa [CR] using this
        obtain ⟨vs, h5, h6, h7⟩ := hrow.list
        refine ⟨vs, ⟨by simpa using h5, fun i hi => by simpa using h7 i hi⟩, fun w2 hw2 => ?_⟩
        refine run_firstCells_some w2 es n _ len c vs (by rw [h5]; exact hlen) (fun j v hv => ?_)
        have := h6 j v hv
        rw [add_mk] at this ⊢
        rw [← this]; exact cell_congr (by rw [hw2]) _
    · cases hf
  · rename_i s
    split at hf
    · rename_i hc
      injection hf with hf
      subst hf
      obtain rfl := str_of hx
      obtain ⟨hc1, rfl⟩ := hc
      refine ⟨by simp; omega, (s.take n).map fun b : UInt8 => Value.int .u8 b.toNat, ⟨by simp, fun i hi => ?_⟩, fun w2 _ => ?_⟩
      · have hi' : i < (s.take n).length := by simpa using hi
        exact ⟨.int .u8 ((s.take n)[i].toNat), by rw [List.getElem?_toArray, List.getElem?_map, List.getElem?_eq_getElem hi']; rfl, by simp only [List.getElem_map]; exact TR.int _ _⟩
      · simp only [Builtin.firstCells, bytes_take]
        rfl
    · cases hf
  · cases hf

theorem lenE_ok {x : AV} {m : Nat} (h : lenE x = some m) {v : Value} (hx : VR ι w x v) (w2 : World) : (Builtin.lenOf v).run P w2 = .ok m w2 := by
  unfold lenE at h
  split at h
  · injection h with h; subst h
    obtain ⟨a, c, rfl, _⟩ := hx
    rfl
  · injection h with h; subst h
    obtain ⟨a, c, rfl, _⟩ := imm_len hx
    rfl
  · injection h with h; subst h
    obtain rfl := str_of hx
    simp [Builtin.lenOf, ByteArray.size]
  · cases h

theorem growBy_le (need : Nat) : ∀ (n c : Nat), Builtin.growBy need n c ≤ max c (2 * need + 768)
  | 0, c => by simp [Builtin.growBy]; omega
  | n + 1, c => by
    simp only [Builtin.growBy]
    split
    · omega
    · have := growBy_le need n (c + (c + 768) / 4)
      omega

theorem nextcap_le {need cap : Nat} (h : cap < need) : Builtin.nextslicecap need cap ≤ 2 * need + 768 := by
  unfold Builtin.nextslicecap
  split
  · omega
  · split
    · omega
    · have := growBy_le need 4 cap
      omega

theorem roomOk.fits {n b : Nat} (h : roomOk n b) {cap : Nat} (hc : cap < n) : ¬ (Builtin.nextslicecap n cap * b > 2 ^ 48) := by
  obtain ⟨h1, h2, h3⟩ := h
  have h4 : Builtin.nextslicecap n cap * b ≤ (2 * n + 768) * b := Nat.mul_le_mul_right _ (nextcap_le hc)
  have h5 : (2 * n + 768) * b = 2 * (n * b) + 768 * b := by rw [Nat.add_mul, Nat.mul_assoc]
  omega

/-- append where there is room -/
theorem run_append_in {ts : Array TypeId} {t u e : TypeId} (h0 : ts[0]? = some t) (h1 : ts[1]? = some u) {j : TInf} (ht : P.underlying t = some (.slice e)) (hj : tinf P e = some j) (hu : (∃ e', P.underlying u = some (.slice e')) ∨ P.underlying u = some .string) (rest : TypeId)
    {a : Option Addr} {len c m : Nat} {x : Value} {new : Array Value} (hlen : (Builtin.lenOf x).run P w = .ok m w) (hfirst : (Builtin.firstCells j.size m x).run P w = .ok new w) (hroom : len + m ≤ c) {w' : World}
    (hst : ∀ b, a = some b → (storeCells (b.add (len * j.size)) new.toList).run P w = .ok () w') (hst' : a = none → w' = w) :
    (Builtin.append_ ts rest #[.slice a len c, x]).run P w = .ok (.slice a (len + m) c) w' := by
  rcases hu with ⟨e', hd1⟩ | hd1
  all_goals
    cases a with
    | none =>
      obtain rfl := hst' rfl
      simp only [Builtin.append_, h0, h1, List.getElem?_toArray, List.getElem?_cons_zero, List.getElem?_cons_succ, Sem.run_bind, run_underlying ht, Result.andThen_ok, tinf_size hj, run_underlying hd1, Sem.run_pure, Bool.false_eq_true, if_false, hlen, if_pos hroom, Bool.not_false, if_true, hfirst]
    | some b =>
      simp only [Builtin.append_, h0, h1, List.getElem?_toArray, List.getElem?_cons_zero, List.getElem?_cons_succ, Sem.run_bind, run_underlying ht, Result.andThen_ok, tinf_size hj w, run_underlying hd1, Sem.run_pure, Bool.false_eq_true, if_false, hlen, if_pos hroom, Bool.not_false, if_true, hfirst, hst b rfl]

/-- append where there is none -/
theorem run_append_out {ts : Array TypeId} {t u e : TypeId} (h0 : ts[0]? = some t) (h1 : ts[1]? = some u) {j : TInf} (ht : P.underlying t = some (.slice e)) (hj : tinf P e = some j) {z : List T} (hz : j.zero = some z) (hzs : j.size = z.length) (hu : (∃ e', P.underlying u = some (.slice e')) ∨ P.underlying u = some .string) (rest : TypeId)
    {a : Option Addr} {len c m : Nat} {x : Value} {old new : Array Value} (hlen : (Builtin.lenOf x).run P w = .ok m w) (hfirst : ∀ w2 : World, w2.heap = w.heap → (Builtin.firstCells j.size m x).run P w2 = .ok new w2)
    (hold : ∀ w2 : World, w2.heap = w.heap → (Builtin.firstCells j.size len (.slice a len c)).run P w2 = .ok old w2) (hroom : c < len + m) (hok : roomOk (len + m) j.bytes) :
    ∃ (cap : Nat) (more : Array Value), len + m ≤ cap ∧ more.size = (cap - (len + m)) * j.size ∧
      (Builtin.append_ ts rest #[.slice a len c, x]).run P w = .ok (.slice (some ⟨w.heap.size, 0, none⟩) (len + m) cap) { w with drawn := w.drawn + 1, heap := w.heap.push (.cells (old ++ new ++ more) e) } := by
  obtain ⟨inf, hinf, hby, _, _⟩ := tinf_info hj w
  obtain ⟨zv, hz1, hz2⟩ := tinf_zero hj hz { w with drawn := w.drawn + 1 }
  have hzl : zv.cells.size = j.size := by
    have := (tsOf_ok (U := fun _ => True) (w := w) hz2).1
    simp at this; omega
  let cap := (Question.appendCap (len + m) c e).cut (w.tape w.drawn (.appendCap (len + m) c e))
  refine ⟨cap, Builtin.zeroCells zv.cells (cap - (len + m)), ?_, by simp [Builtin.zeroCells, hzl], ?_⟩
  · simp only [cap, Question.cut]
    omega
  · have hn : ¬ (len + m ≤ c) := by omega
    have h63 : ¬ (((len + m : Nat) : Int) > IntKind.i64.max ∧ (False ∨ inf.bytes = 0)) := by
      have : (IntKind.i64.max : Int) = 9223372036854775807 := by decide
      rw [this]
      have := hok.2.1
      omega
    have h48 : ¬ (Builtin.nextslicecap (len + m) c * inf.bytes > 2 ^ 48) := by rw [hby]; exact hok.fits hroom
    have hf := hfirst { w with drawn := w.drawn + 1 } rfl
    have ho := hold { w with drawn := w.drawn + 1 } rfl
    have hinf2 : (typeInfo e).run P { w with drawn := w.drawn + 1 } = .ok inf { w with drawn := w.drawn + 1 } := by
      obtain ⟨inf', h1, _, _, h4⟩ := tinf_info hj { w with drawn := w.drawn + 1 }
      obtain ⟨inf'', h1', _, _, h4'⟩ := tinf_info hj w
      rw [hinf] at h1'
      injection h1' with h1'
      subst h1'
      rw [h4'] at h4
      injection h4 with h4
      subst h4
      exact h1
    have h63' : ¬ (((len + m : Nat) : Int) > IntKind.i64.max ∧ inf.bytes = 0) := fun h => h63 ⟨h.1, .inr h.2⟩
    have key : (Builtin.append_ ts rest #[.slice a len c, x]).run P w = ((do
        let newCap ← choose (.appendCap (len + m) c e)
        askRoom (newCap * (← typeInfo e).bytes)
        let old ← Builtin.firstCells j.size len (.slice a len c)
        let new ← Builtin.firstCells j.size m x
        let rest := Builtin.zeroCells (← zeroValue e).cells (newCap - (len + m))
        pure (.slice (some (← newRow e (old ++ new ++ rest))) (len + m) newCap) : Sem Value)).run P w := by
      rcases hu with ⟨e', hd1⟩ | hd1
      all_goals
        simp only [Builtin.append_, h0, h1, List.getElem?_toArray, List.getElem?_cons_zero, List.getElem?_cons_succ, Sem.run_bind, run_underlying ht, Result.andThen_ok, tinf_size hj w, run_underlying hd1, Sem.run_pure, Bool.false_eq_true, if_false, hlen, if_neg hn, hinf, false_or, if_neg h63', if_neg h48, Bool.not_false, if_true]
    rw [key]
    have hch : (choose (.appendCap (len + m) c e)).run P w = .ok cap { w with drawn := w.drawn + 1 } := by
      simp [choose, Sem.run, Question.forced, cap]
    simp only [Sem.run_bind, hch, Result.andThen_ok, hinf2, run_askRoom, ho, hf, hz1, Sem.run_pure]
    rfl

end
end Go.Abs
