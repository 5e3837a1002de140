/-
  A general library: each operation of the abstract heap is what the machine does. Part 6: building, new blocks, stores.
-/
import Derived.Test.YthchfbanjeiieaaAbs7
set_option linter.unusedSimpArgs false
set_option linter.unusedVariables false
namespace Go.Abs

section
variable {P : Program} {ι : Map} {σ : Heap} {w : World}

def cellsR (ι : Map) (w : World) (cs : List Cell) (arr : Array Value) : Prop := arr.size = cs.length ∧ ∀ i (h : i < cs.length), ∃ u, arr[i]? = some u ∧ CR ι w cs[i] u

theorem cells_ok {x : AV} {v : Value} (hf : x.flat = true) (h : VR ι w x v) : cellsR ι w x.cells v.cells := by
  cases x with
  | c x =>
    have h1 := CR.oneCell h
    have e : v.cells = #[v] := by cases v <;> first | rfl | (simp [Value.oneCell'] at h1)
    rw [e]
    refine ⟨rfl, fun i hi => ⟨v, ?_, ?_⟩⟩
    · have : i = 0 := by simpa [AV.cells] using hi
      subst this; rfl
    · have : i = 0 := by simpa [AV.cells] using hi
      subst this; exact h
  | agg xs =>
    obtain ⟨arr, rfl, hn, hc⟩ := h
    exact ⟨hn, hc⟩
  | tup xs => cases hf

theorem foldl_set (off : Nat) : ∀ (l : List Value) (s : Nat) (arr : Array Value), off + s + l.length ≤ arr.size →
    ((l.zipIdx s).foldl (fun cs (p : Value × Nat) => cs.setIfInBounds (off + p.2) p.1) arr).size = arr.size ∧
    ∀ k, ((l.zipIdx s).foldl (fun cs (p : Value × Nat) => cs.setIfInBounds (off + p.2) p.1) arr)[k]? =
      if off + s ≤ k ∧ k < off + s + l.length then l[k - (off + s)]? else arr[k]?
  | [], s, arr, _ => ⟨rfl, fun k => by simp; intro h1 h2; omega⟩
  | v :: l, s, arr, hl => by
    simp only [List.zipIdx_cons, List.foldl_cons]
    simp only [List.length_cons] at hl
    obtain ⟨h1, h2⟩ := foldl_set off l (s + 1) (arr.setIfInBounds (off + s) v) (by simp; omega)
    refine ⟨by rw [h1]; simp, fun k => ?_⟩
    rw [h2 k]
    by_cases c1 : off + (s + 1) ≤ k ∧ k < off + (s + 1) + l.length
    · rw [if_pos c1, if_pos (by simp; omega)]
      have e : k - (off + s) = (k - (off + (s + 1))) + 1 := by omega
      rw [e, List.getElem?_cons_succ]
    · rw [if_neg c1]
      by_cases c2 : k = off + s
      · subst c2
        rw [if_pos (by simp)]
        rw [Array.getElem?_setIfInBounds_self_of_lt (by omega)]
        simp
      · rw [if_neg (by simp; omega)]
        rw [Array.getElem?_setIfInBounds_ne (fun e => c2 e.symm)]

theorem fill_ok {place : Nat → Option (Nat × Nat)} : ∀ {ps : List (Nat × AV)} {cs cs' : List Cell}, fillE place ps cs = some cs' → ∀ {vs : List (Nat × Value)} {arr : Array Value}, cellsR ι w cs arr →
    (vs.length = ps.length ∧ ∀ i (h : i < ps.length), ∃ v, vs[i]? = some (ps[i].1, v) ∧ VR ι w ps[i].2 v) → ∃ arr', Instr.fill place arr vs = some arr' ∧ cellsR ι w cs' arr'
  | [], cs, cs', h, vs, arr, hc, hv => by
    simp only [fillE, Option.some.injEq] at h
    subst h
    have : vs = [] := List.eq_nil_of_length_eq_zero hv.1
    subst this
    exact ⟨arr, rfl, hc⟩
  | (n, x) :: ps, cs, cs', h, vs, arr, hc, hv => by
    obtain ⟨hn, hv⟩ := hv
    obtain ⟨v, hv0, hx⟩ := hv 0 (by simp)
    cases vs with
    | nil => simp at hv0
    | cons p vs =>
      simp only [List.getElem?_cons_zero, Option.some.injEq, List.getElem_cons_zero] at hv0 hx
      subst hv0
      simp only [fillE] at h
      split at h
      · rename_i off size hp
        split at h
        · rename_i hcond
          obtain ⟨hf, hl, hfit⟩ := hcond
          obtain ⟨hs, hcc⟩ := cells_ok hf hx
          have hsz : v.cells.size = size := by rw [hs]; exact hl
          have hle : off + v.cells.size ≤ arr.size := by rw [hc.1]; omega
          obtain ⟨h1, h2⟩ := foldl_set off v.cells.toList 0 arr (by simpa using hle)
          have harr : cellsR ι w (splice cs off x.cells) (v.cells.zipIdx.foldl (fun cs (p : Value × Nat) => cs.setIfInBounds (off + p.2) p.1) arr) := by
            rw [← Array.foldl_toList, Array.toList_zipIdx]
            have hfit' : off + x.cells.length ≤ cs.length := by omega
            refine ⟨by rw [h1, hc.1, splice_length _ _ _ hfit'], fun i hi => ?_⟩
            have hi' : i < cs.length := by simpa [splice_length _ _ _ hfit'] using hi
            have hsp := splice_getElem? cs off x.cells hfit' i
            have hget : (splice cs off x.cells)[i]? = some ((splice cs off x.cells)[i]'hi) := List.getElem?_eq_getElem hi
            rw [h2 i]
            by_cases c1 : off ≤ i ∧ i < off + v.cells.size
            · rw [if_pos (by simpa using c1)]
              rw [if_neg (by omega), if_pos (by omega)] at hsp
              have hi2 : i - off < x.cells.length := by omega
              obtain ⟨u, h8, h9⟩ := hcc (i - off) hi2
              refine ⟨u, by simpa using h8, ?_⟩
              have e : (splice cs off x.cells)[i]'hi = x.cells[i - off] := by
                rw [hget, List.getElem?_eq_getElem hi2] at hsp
                injection hsp
              rw [e]; exact h9
            · rw [if_neg (by simpa using c1)]
              have hsp' : (splice cs off x.cells)[i]? = cs[i]? := by
                rw [hsp]
                split
                · rfl
                · rw [if_neg (by omega)]
              obtain ⟨u, h8, h9⟩ := hc.2 i hi'
              refine ⟨u, h8, ?_⟩
              have e : (splice cs off x.cells)[i]'hi = cs[i] := by
                rw [hget, List.getElem?_eq_getElem hi'] at hsp'
                injection hsp'
              rw [e]; exact h9
          obtain ⟨arr', h3, h4⟩ := fill_ok h harr ⟨by simpa using hn, fun i hi => by
            have := hv (i + 1) (by simpa using hi)
            simpa using this⟩
          refine ⟨arr', ?_, h4⟩
          simp only [Instr.fill, hp]
          rw [if_neg (by simp [hsz]; omega)]
          exact h3
        · cases h
      · cases h

theorem evs_ok {N : Nat} {r : Regs} {a : Act} (hr : RegR N ι w r a) : ∀ {xs : List (Nat × Operand)} {vs : List (Nat × AV)}, evs r xs = some vs →
    ((xs.map fun (i, x) => (i, a.eval x)).length = vs.length ∧ ∀ i (h : i < vs.length), ∃ v, (xs.map fun (i, x) => (i, a.eval x))[i]? = some (vs[i].1, v) ∧ VR ι w vs[i].2 v)
  | [], vs, h => by
    simp only [evs, Option.some.injEq] at h
    subst h
    exact ⟨rfl, fun i hi => absurd hi (by simp)⟩
  | (n, x) :: xs, vs, h => by
    simp only [evs] at h
    split at h
    · rename_i v vs' h1 h2
      injection h with h
      subst h
      obtain ⟨h3, h4⟩ := evs_ok hr h2
      refine ⟨by simpa using h3, fun i hi => ?_⟩
      cases i with
      | zero => exact ⟨a.eval x, rfl, ev_ok hr h1⟩
      | succ i => exact h4 i (by simpa using hi)
    · cases h

theorem ts_cellsR {vs : Array Value} {ts : List T} (h : tsOf vs.toList = some ts) : cellsR ι w (ts.map .t) vs := by
  obtain ⟨arr, e, h1, h2⟩ := aggR_ts (ι := ι) (w := w) h
  injection e with e
  subst e
  exact ⟨h1, h2⟩

theorem places_ok : ∀ {fs : List Field} {ps : List (Nat × Nat)}, placesE P (fs.map fun f => (f.offset, f.type)) = some ps →
    (fs.mapM fun f => (do pure (f.offset, ← sizeOf f.type) : Sem (Nat × Nat))).run P w = .ok ps w
  | [], ps, h => by
    simp only [List.map_nil, placesE, Option.some.injEq] at h
    subst h
    simp
  | f :: fs, ps, h => by
    simp only [List.map_cons, placesE] at h
    split at h
    · rename_i i ps' h1 h2
      injection h with h
      subst h
      have := places_ok h2
      simp only [List.mapM_cons, Sem.run_bind, tinf_size h1, Result.andThen_ok, Sem.run_pure, this]
    · cases h

theorem buildE_ok {t : TypeId} {ps : List (Nat × AV)} {y : AV} (h : buildE P t ps = some y) {vs : Array (Nat × Value)}
    (hv : vs.toList.length = ps.length ∧ ∀ i (h : i < ps.length), ∃ v, vs.toList[i]? = some (ps[i].1, v) ∧ VR ι w ps[i].2 v) : ∃ z, (Instr.build t vs).run P w = .ok z w ∧ VR ι w y z := by
  unfold buildE at h
  split at h
  · rename_i i hi
    split at h
    · rename_i z fs hz hk
      obtain ⟨gs, hu, rfl⟩ := kind_struct hi hk
      obtain ⟨zv, hz1, hz2⟩ := tinf_zero hi hz w
      split at h
      · rename_i places hp
        simp only [Option.map_eq_some_iff] at h
        obtain ⟨cs, hf, rfl⟩ := h
        obtain ⟨arr', h1, h2⟩ := fill_ok hf (ts_cellsR (ι := ι) (w := w) hz2) hv
        have hpl : (gs.mapM fun f => (do pure (f.offset, ← sizeOf f.type) : Sem (Nat × Nat))).run P w = .ok places.toArray w := by
          have := places_ok (w := w) hp
          rw [Array.mapM_eq_mapM_toList]
          simp only [Sem.run_map, this, Result.andThen_ok]
        refine ⟨.agg arr', ?_, arr', rfl, h2⟩
        have h1' : Instr.fill (fun n => places.toArray[n]?) zv.cells vs.toList = some arr' := by simpa using h1
        simp only [Instr.build, Sem.run_bind, hz1, run_underlying hu, hpl, Result.andThen_ok, h1']
        rfl
      · cases h
    · rename_i z n e hz hk
      have hu := kind_array hi hk
      obtain ⟨zv, hz1, hz2⟩ := tinf_zero hi hz w
      split at h
      · rename_i j hj
        simp only [Option.map_eq_some_iff] at h
        obtain ⟨cs, hf, rfl⟩ := h
        obtain ⟨arr', h1, h2⟩ := fill_ok hf (ts_cellsR (ι := ι) (w := w) hz2) hv
        refine ⟨.agg arr', ?_, arr', rfl, h2⟩
        simp [Instr.build, hz1, run_underlying hu, tinf_size hj w, h1]
      · cases h
    · cases h
  · cases h

theorem repl_length (n : Nat) (z : List T) : (repl n z).length = n * z.length := by
  induction n with
  | zero => simp [repl]
  | succ n ih => simp [repl, ih, Nat.succ_mul]; omega

theorem repl_get (n : Nat) (z : List T) (hz : 0 < z.length) (i : Nat) (hi : i < n * z.length) : (repl n z)[i]? = z[i % z.length]? := by
  induction n generalizing i with
  | zero => simp at hi
  | succ n ih =>
    simp only [repl]
    by_cases h : i < z.length
    · rw [List.getElem?_append_left h, Nat.mod_eq_of_lt h]
    · rw [List.getElem?_append_right (by omega), ih _ (by rw [Nat.succ_mul] at hi; omega)]
      have e := Nat.mod_eq_sub_mod (a := i) (b := z.length) (by omega)
      rw [e]

theorem repl_cells {n : Nat} {z : List T} {zv : Array Value} (h : tsOf zv.toList = some z) (hz : 0 < z.length) : cellsR ι w ((repl n z).map .t) ((Array.range (n * z.length)).map (zv[· % zv.size]!)) := by
  obtain ⟨h1, h2⟩ := ts_cellsR (ι := ι) (w := w) h
  simp only [List.length_map] at h1
  refine ⟨by simp [repl_length], fun i hi => ?_⟩
  have hi' : i < n * z.length := by simpa [repl_length] using hi
  have hm : i % z.length < z.length := Nat.mod_lt _ hz
  obtain ⟨u, h3, h4⟩ := h2 (i % z.length) (by simpa using hm)
  refine ⟨u, ?_, ?_⟩
  · rw [Array.getElem?_map]
    have : (Array.range (n * z.length))[i]? = some i := by simp [hi']
    rw [this]
    simp only [Option.map_some, Option.some.injEq, h1]
    rw [getElem!_pos zv _ (by omega)]
    have e := Array.getElem?_eq_getElem (xs := zv) (i := i % z.length) (by omega)
    rw [e] at h3
    injection h3
  · have e := repl_get n z hz i hi'
    have hg : (repl n z)[i]? = some ((repl n z)[i]'(by simpa using hi)) := List.getElem?_eq_getElem _
    rw [hg, List.getElem?_eq_getElem hm] at e
    injection e with e
    simp only [List.getElem_map, e]
    simpa using h4

theorem allT_eq : ∀ {cs : List Cell} {ts : List T}, allT cs = some ts → cs = ts.map .t
  | [], ts, h => by simp only [allT, Option.some.injEq] at h; subst h; rfl
  | .t x :: cs, ts, h => by
    simp only [allT, Option.map_eq_some_iff] at h
    obtain ⟨ts', h1, rfl⟩ := h
    simp [allT_eq h1]
  | .ptr _ :: cs, ts, h => by simp [allT] at h
  | .sl .. :: cs, ts, h => by simp [allT] at h
  | .clo .. :: cs, ts, h => by simp [allT] at h

/-- a new block that no object names: the heap is as it was; its cells never change -/
theorem new_un (h : HR ι σ w) {w' : World} {o : Go.Obj} (hh : w'.heap = w.heap.push o) (ho : w'.os = w.os) (hp : w'.output = w.output) :
    Step ι σ w ι σ w' ∧ HR ι σ w' ∧ ι.un w.heap.size := by
  have hst : Step ι σ w ι σ w' := {
    len := Nat.le_refl _
    size := by rw [hh]; simp
    os := ho
    out := hp
    keep := fun _ s h => ⟨s, h, Nat.le_refl _, fun _ => rfl⟩
    none := fun _ _ h => h
    new := fun id s' l' h h' => .inr ⟨id, s', l', h, h', rfl⟩
    res := rfl
    resKeep := fun b hb => by rw [hh]; simp [Array.getElem?_push, Nat.ne_of_lt (h.resRow b hb).lt]
    frame := fun b hb _ => by rw [hh]; simp [Array.getElem?_push, Nat.ne_of_lt hb] }
  refine ⟨hst, ⟨fun id s hs => ?_, h.inj, fun b hb => (let ⟨c, e, fr, h1⟩ := h.resRow b hb; ⟨c, e, fr, by rw [hst.resKeep b hb]; exact h1⟩), h.resNo⟩, fun hm => absurd (h.blk_lt hm) (Nat.lt_irrefl _)⟩
  obtain ⟨o', h1, h2⟩ := h.obj id s hs
  refine ⟨o', h1, h2.congr hst (fun l hl => ?_)⟩
  have := h.blk_lt (.inl ⟨id, s, l, hs, hl, rfl⟩)
  rw [hh]; simp [Array.getElem?_push, Nat.ne_of_lt this]

end
end Go.Abs
