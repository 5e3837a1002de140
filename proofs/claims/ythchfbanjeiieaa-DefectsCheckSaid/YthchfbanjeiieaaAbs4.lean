/-
  A general library: each operation of the abstract heap is what the machine does. Part 2: how the relation is carried over a new block and over a store.
-/
import Derived.Test.YthchfbanjeiieaaAbs3
set_option linter.unusedSimpArgs false
set_option linter.unusedVariables false
namespace Go.Abs

theorem HR.lt {ι : Map} {σ : Heap} {w : World} (h : HR ι σ w) {id : Nat} {s : Spot} (hs : ι id = some s) : id < σ.length := by
  obtain ⟨o, ho, _⟩ := h.obj _ _ hs
  exact (List.getElem?_eq_some_iff.1 ho).1

theorem HR.blk_lt {ι : Map} {σ : Heap} {w : World} (h : HR ι σ w) {b : Nat} (hb : ι.mapped b) : b < w.heap.size := by
  rcases hb with ⟨id, s, l, h1, h2, rfl⟩ | hr
  · obtain ⟨o, _, _, _, h5⟩ := h.obj _ _ h1
    rw [h2] at h5
    obtain ⟨⟨cells, elem, h6, _⟩, _⟩ := h5
    exact (Array.getElem?_eq_some_iff.1 h6).1
  · exact (h.resRow _ hr).lt

/-- the same heap of blocks: the same relation -/
theorem Step.same {ι : Map} {σ : Heap} {w w' : World} (hh : w'.heap = w.heap) (ho : w'.os = w.os) (hp : w'.output = w.output) : Step ι σ w ι σ w' where
  len := Nat.le_refl _
  size := by rw [hh]; exact Nat.le_refl _
  os := ho
  out := hp
  keep := fun _ s h => ⟨s, h, Nat.le_refl _, fun _ => rfl⟩
  none := fun _ _ h => h
  new := fun id s' l' h h' => .inr ⟨id, s', l', h, h', rfl⟩
  res := rfl
  resKeep := fun b _ => by rw [hh]
  frame := fun b _ _ => by rw [hh]

theorem HR.same {ι : Map} {σ : Heap} {w w' : World} (h : HR ι σ w) (hh : w'.heap = w.heap) (ho : w'.os = w.os) (hp : w'.output = w.output) : HR ι σ w' where
  obj := fun id s hs => by
    obtain ⟨o, h1, h2⟩ := h.obj id s hs
    exact ⟨o, h1, h2.congr (Step.same (ι := ι) (σ := σ) hh ho hp) (fun l _ => by rw [hh])⟩
  inj := h.inj
  resRow := fun b hb => by obtain ⟨c, e, fr, h1⟩ := h.resRow b hb; exact ⟨c, e, fr, by rw [hh]; exact h1⟩
  resNo := h.resNo

def Map.push (ι : Map) (n : Nat) (s : Spot) : Map := ⟨fun id => if id = n then some s else ι id, ι.res⟩

theorem Map.push_same (ι : Map) (n : Nat) (s : Spot) : ι.push n s n = some s := by simp [Map.push]
theorem Map.push_ne (ι : Map) {n id : Nat} (s : Spot) (h : id ≠ n) : ι.push n s id = ι id := by simp [Map.push, h]

section push
variable {ι : Map} {σ : Heap} {w w' : World} {arr : Array Value} {e : TypeId} {o : Obj}

theorem Step.push (h : HR ι σ w) (hh : w'.heap = w.heap.push (.cells arr e)) (ho : w'.os = w.os) (hp : w'.output = w.output) (s : Spot) (hs : ∀ l, s.loc = some l → l.blk = w.heap.size) :
    Step ι σ w (ι.push σ.length s) (σ ++ [o]) w' where
  len := by simp
  size := by rw [hh]; simp
  os := ho
  out := hp
  keep := fun id s' hs' => ⟨s', by rw [Map.push_ne _ _ (Nat.ne_of_lt (h.lt hs'))]; exact hs', Nat.le_refl _, fun _ => rfl⟩
  none := fun id hid hn => by rw [Map.push_ne _ _ (Nat.ne_of_lt hid)]; exact hn
  new := fun id s' l' h1 h2 => by
    by_cases e : id = σ.length
    · subst e
      rw [Map.push_same] at h1
      injection h1 with h1
      subst h1
      exact .inl (by rw [hs _ h2]; exact Nat.le_refl _)
    · rw [Map.push_ne _ _ e] at h1
      exact .inr ⟨id, s', l', h1, h2, rfl⟩
  res := rfl
  resKeep := fun b hb => by rw [hh]; simp [Array.getElem?_push, Nat.ne_of_lt (h.resRow b hb).lt]
  frame := fun b hb _ => by rw [hh]; simp [Array.getElem?_push, Nat.ne_of_lt hb]

theorem HR.push (h : HR ι σ w) (hh : w'.heap = w.heap.push (.cells arr e)) (ho : w'.os = w.os) (hp : w'.output = w.output) (hep : o.ep = 0) (hlen : o.cs.length ≤ arr.size)
    (hc : ∀ i (hi : i < o.cs.length), ∃ v, arr[i]? = some v ∧ CR ι w o.cs[i] v) :
    Step ι σ w (ι.push σ.length ⟨some ⟨w.heap.size, 0, arr.size⟩, o.es, 0⟩) (σ ++ [o]) w' ∧ HR (ι.push σ.length ⟨some ⟨w.heap.size, 0, arr.size⟩, o.es, 0⟩) (σ ++ [o]) w' := by
  have hs : Step ι σ w (ι.push σ.length ⟨some ⟨w.heap.size, 0, arr.size⟩, o.es, 0⟩) (σ ++ [o]) w' := Step.push h hh ho hp _ (fun l hl => by injection hl with hl; rw [← hl])
  have hnew : w'.heap[w.heap.size]? = some (.cells arr e) := by rw [hh]; simp
  refine ⟨hs, ⟨fun id s h1 => ?_, fun id id' s s' l l' h1 h2 h3 h4 h5 => ?_, fun b hb => ?_, fun id s l h1 h2 hr => ?_⟩⟩
  · by_cases e1 : id = σ.length
    · subst e1
      rw [Map.push_same] at h1
      injection h1 with h1
      subst h1
      refine ⟨o, by simp, rfl, hep, ⟨⟨arr, e, hnew, by simp⟩, hlen, fun i hi => ?_⟩⟩
      obtain ⟨v, h2, h3⟩ := hc i hi
      exact ⟨v, by simp [World.cell?, hnew, h2], h3.step hs⟩
    · rw [Map.push_ne _ _ e1] at h1
      obtain ⟨o', h2, h3⟩ := h.obj id s h1
      refine ⟨o', by rw [List.getElem?_append_left (h.lt h1)]; exact h2, h3.congr hs (fun l hl => ?_)⟩
      have hb : l.blk < w.heap.size := h.blk_lt (.inl ⟨id, s, l, h1, hl, rfl⟩)
      rw [hh]; simp [Array.getElem?_push, Nat.ne_of_lt hb]
  · by_cases e1 : id = σ.length
    · by_cases e2 : id' = σ.length
      · omega
      · subst e1
        rw [Map.push_same] at h1
        rw [Map.push_ne _ _ e2] at h2
        injection h1 with h1
        subst h1
        injection h3 with h3
        have := h.blk_lt (.inl ⟨id', s', l', h2, h4, rfl⟩)
        rw [← h5, ← h3] at this
        exact absurd this (Nat.lt_irrefl _)
    · by_cases e2 : id' = σ.length
      · subst e2
        rw [Map.push_same] at h2
        rw [Map.push_ne _ _ e1] at h1
        injection h2 with h2
        subst h2
        injection h4 with h4
        have := h.blk_lt (.inl ⟨id, s, l, h1, h3, rfl⟩)
        rw [h5, ← h4] at this
        exact absurd this (Nat.lt_irrefl _)
      · rw [Map.push_ne _ _ e1] at h1
        rw [Map.push_ne _ _ e2] at h2
        exact h.inj id id' s s' l l' h1 h2 h3 h4 h5
  · obtain ⟨c, e, fr, h1⟩ := h.resRow b hb
    exact ⟨c, e, fr, by rw [hs.resKeep b hb]; exact h1⟩
  · by_cases e1 : id = σ.length
    · subst e1
      rw [Map.push_same] at h1
      injection h1 with h1
      subst h1
      injection h2 with h2
      have := (h.resRow _ hr).lt
      rw [← h2] at this
      exact absurd this (Nat.lt_irrefl _)
    · rw [Map.push_ne _ _ e1] at h1
      exact h.resNo id s l h1 h2 hr
end push

section upd
variable {ι : Map} {σ : Heap} {w w' : World} {id : Nat} {s s' : Spot} {o' : Obj}

/-- an object is rewritten: its block is the only one that has turned, or a new block has come -/
theorem Step.upd (h : HR ι σ w) (hid : ι id = some s) (hep : s.ep ≤ s'.ep) (hes : s.ep = s'.ep → s' = s) (hsz : w.heap.size ≤ w'.heap.size) (ho : w'.os = w.os) (hp : w'.output = w.output)
    (hloc : ∀ l', s'.loc = some l' → w.heap.size ≤ l'.blk ∨ ι.byId l'.blk)
    (hfr : ∀ b, b < w.heap.size → (∀ l, s.loc = some l → l.blk ≠ b) → w'.heap[b]? = w.heap[b]?) :
    Step ι σ w (ι.push id s') (σ.set id o') w' where
  len := by simp
  size := hsz
  os := ho
  out := hp
  keep := fun id' s'' hs'' => by
    by_cases e : id' = id
    · subst e
      rw [hid] at hs''
      injection hs'' with hs''
      subst hs''
      exact ⟨s', Map.push_same _ _ _, hep, hes⟩
    · exact ⟨s'', by rw [Map.push_ne _ _ e]; exact hs'', Nat.le_refl _, fun _ => rfl⟩
  none := fun id' _ hn => by
    have e : id' ≠ id := by intro e; subst e; rw [hid] at hn; cases hn
    rw [Map.push_ne _ _ e]; exact hn
  new := fun id' s'' l' h1 h2 => by
    by_cases e : id' = id
    · subst e
      rw [Map.push_same] at h1
      injection h1 with h1
      subst h1
      exact hloc l' h2
    · rw [Map.push_ne _ _ e] at h1
      exact .inr ⟨id', s'', l', h1, h2, rfl⟩
  res := rfl
  resKeep := fun b hb => hfr b (h.resRow b hb).lt (fun l hl e => h.resNo id s l hid hl (e ▸ hb))
  frame := fun b hb hu => hfr b hb (fun l hl e => hu (.inl ⟨id, s, l, hid, hl, e⟩))

theorem HR.upd (h : HR ι σ w) (hid : ι id = some s) (hst : Step ι σ w (ι.push id s') (σ.set id o') w')
    (hfr : ∀ b, b < w.heap.size → (∀ l, s.loc = some l → l.blk ≠ b) → w'.heap[b]? = w.heap[b]?)
    (hloc : ∀ l', s'.loc = some l' → w.heap.size ≤ l'.blk ∨ ∃ l, s.loc = some l ∧ l.blk = l'.blk)
    (hor : OR (ι.push id s') w' o' s') : HR (ι.push id s') (σ.set id o') w' where
  obj := fun id' s'' h1 => by
    by_cases e : id' = id
    · subst e
      rw [Map.push_same] at h1
      injection h1 with h1
      subst h1
      exact ⟨o', by simp [h.lt hid], hor⟩
    · rw [Map.push_ne _ _ e] at h1
      obtain ⟨o, h2, h3⟩ := h.obj id' s'' h1
      refine ⟨o, by rw [List.getElem?_set_ne (fun x => e x.symm)]; exact h2, h3.congr hst (fun l hl => ?_)⟩
      exact hfr _ (h.blk_lt (.inl ⟨id', s'', l, h1, hl, rfl⟩)) (fun l0 hl0 e0 => e (h.inj id' id s'' s l l0 h1 hid hl hl0 e0.symm))
  inj := fun i1 i2 s1 s2 l1 l2 h1 h2 h3 h4 h5 => by
    by_cases e1 : i1 = id
    · by_cases e2 : i2 = id
      · omega
      · subst e1
        rw [Map.push_same] at h1
        rw [Map.push_ne _ _ e2] at h2
        injection h1 with h1
        subst h1
        rcases hloc l1 h3 with h6 | ⟨l, h6, h7⟩
        · have := h.blk_lt (.inl ⟨i2, s2, l2, h2, h4, rfl⟩)
          omega
        · exact h.inj i1 i2 s s2 l l2 hid h2 h6 h4 (h7.trans h5)
    · by_cases e2 : i2 = id
      · subst e2
        rw [Map.push_same] at h2
        rw [Map.push_ne _ _ e1] at h1
        injection h2 with h2
        subst h2
        rcases hloc l2 h4 with h6 | ⟨l, h6, h7⟩
        · have := h.blk_lt (.inl ⟨i1, s1, l1, h1, h3, rfl⟩)
          omega
        · exact h.inj i1 i2 s1 s l1 l h1 hid h3 h6 (h5.trans h7.symm)
      · rw [Map.push_ne _ _ e1] at h1
        rw [Map.push_ne _ _ e2] at h2
        exact h.inj i1 i2 s1 s2 l1 l2 h1 h2 h3 h4 h5
  resRow := fun b hb => by
    obtain ⟨c, e, fr, h1⟩ := h.resRow b hb
    exact ⟨c, e, fr, by rw [hst.resKeep b hb]; exact h1⟩
  resNo := fun id' s'' l h1 h2 hr => by
    by_cases e : id' = id
    · subst e
      rw [Map.push_same] at h1
      injection h1 with h1
      subst h1
      rcases hloc l h2 with h3 | ⟨l0, h3, h4⟩
      · have := (h.resRow _ hr).lt
        omega
      · exact h.resNo id' s l0 hid h3 (h4 ▸ hr)
    · rw [Map.push_ne _ _ e] at h1
      exact h.resNo id' s'' l h1 h2 hr
end upd

theorem Map.push_self {ι : Map} {id : Nat} {s : Spot} (h : ι id = some s) : ι.push id s = ι := by
  obtain ⟨f, q⟩ := ι
  unfold Map.push
  congr 1
  funext i
  split
  · rename_i e; subst e; exact h.symm
  · rfl

theorem splice_length (cs : List Cell) (off : Nat) (xs : List Cell) (h : off + xs.length ≤ cs.length) : (splice cs off xs).length = cs.length := by
  simp [splice]; omega

theorem splice_getElem? (cs : List Cell) (off : Nat) (xs : List Cell) (h : off + xs.length ≤ cs.length) (i : Nat) :
    (splice cs off xs)[i]? = if i < off then cs[i]? else if i < off + xs.length then xs[i - off]? else cs[i]? := by
  unfold splice
  by_cases h1 : i < off
  · rw [if_pos h1, List.append_assoc, List.getElem?_append_left (by simp; omega), List.getElem?_take_of_lt h1]
  · rw [if_neg h1, List.append_assoc, List.getElem?_append_right (by simp; omega)]
    have e : (List.take off cs).length = off := by simp; omega
    rw [e]
    by_cases h2 : i < off + xs.length
    · rw [if_pos h2, List.getElem?_append_left (by omega)]
    · rw [if_neg h2, List.getElem?_append_right (by omega), List.getElem?_drop]
      congr 1
      omega

/-- a run of cells is stored into an object -/
theorem HR.write {ι : Map} {σ : Heap} {w : World} (h : HR ι σ w) {id : Nat} {s : Spot} {o : Obj} {l : Loc} (hid : ι id = some s) (hl : s.loc = some l) (ho : σ[id]? = some o)
    (P : Program) (off : Nat) (xs : List Cell) (vs : List Value) (hn : vs.length = xs.length) (hx : ∀ i (hi : i < xs.length), ∃ u, vs[i]? = some u ∧ CR ι w xs[i] u)
    (hfit : off + xs.length ≤ o.cs.length) :
    ∃ w', (storeCells ⟨l.blk, l.sh + off, none⟩ vs).run P w = .ok () w' ∧ Step ι σ w ι (σ.set id { o with cs := splice o.cs off xs }) w' ∧ HR ι (σ.set id { o with cs := splice o.cs off xs }) w' := by
  obtain ⟨o', ho', hor⟩ := h.obj _ _ hid
  rw [ho] at ho'
  injection ho' with ho'
  subst ho'
  have hor0 := hor
  obtain ⟨h1, h2, h3⟩ := hor
  rw [hl] at h3
  obtain ⟨⟨cells, elem, h4, h5⟩, h6, h7⟩ := h3
  have hone : ∀ v ∈ vs, v.oneCell' = true := fun v hv => by
    obtain ⟨i, hi⟩ := List.getElem?_of_mem hv
    have hlt : i < xs.length := by rw [← hn]; exact (List.getElem?_eq_some_iff.1 hi).1
    obtain ⟨u, h8, h9⟩ := hx i hlt
    rw [hi] at h8
    injection h8 with h8
    subst h8
    exact CR.oneCell h9
  have hrun := run_storeCells_at P l.blk (l.sh + off) elem vs 0 cells w h4 (by omega) hone
  simp only [Nat.add_zero] at hrun
  refine ⟨_, hrun, ?_⟩
  generalize hw' : w.setRow l.blk (cells.toList.take (l.sh + off) ++ vs ++ cells.toList.drop (l.sh + off + vs.length)).toArray = w'
  have hnew : w'.heap[l.blk]? = some (.cells (cells.toList.take (l.sh + off) ++ vs ++ cells.toList.drop (l.sh + off + vs.length)).toArray elem (0, 0)) := by
    rw [← hw']; exact setRow_heap w l.blk cells _ elem _ h4
  have hfr : ∀ b, b < w.heap.size → (∀ l', s.loc = some l' → l'.blk ≠ b) → w'.heap[b]? = w.heap[b]? := fun b _ hb => by
    rw [← hw']
    simp only [World.setRow]
    rw [Array.getElem?_modify]
    simp [hb l hl]
  have hst0 : Step ι σ w (ι.push id s) (σ.set id { o with cs := splice o.cs off xs }) w' := by
    refine Step.upd h hid (Nat.le_refl _) (fun _ => rfl) ?_ ?_ ?_ (fun l' hl' => .inr ⟨id, s, l', hid, hl', rfl⟩) hfr
    · rw [← hw']; simp [World.setRow]
    · rw [← hw']; rfl
    · rw [← hw']; rfl
  have hsz : (cells.toList.take (l.sh + off) ++ vs ++ cells.toList.drop (l.sh + off + vs.length)).toArray.size = cells.size := by simp; omega
  have hor' : OR (ι.push id s) w' { o with cs := splice o.cs off xs } s := by
    refine ⟨h1, h2, ?_⟩
    rw [hl]
    refine ⟨⟨_, elem, hnew, by rw [hsz]; exact h5⟩, by simp only [splice_length _ _ _ hfit]; exact h6, fun i hi => ?_⟩
    have hi' : i < o.cs.length := by simpa [splice_length _ _ _ hfit] using hi
    have hsp := splice_getElem? o.cs off xs hfit i
    have hget : (splice o.cs off xs)[i]? = some ((splice o.cs off xs)[i]'hi) := List.getElem?_eq_getElem hi
    have hcell : ∀ v, (cells.toList.take (l.sh + off) ++ vs ++ cells.toList.drop (l.sh + off + vs.length))[l.sh + i]? = some v → w'.cell? ⟨l.blk, l.sh + i, none⟩ = some v := fun v hv => by
      simp only [World.cell?, hnew]
      simpa using hv
    have hold : w.cell? ⟨l.blk, l.sh + i, none⟩ = cells[l.sh + i]? := by simp [World.cell?, h4]
    by_cases c1 : i < off
    · rw [if_pos c1] at hsp
      obtain ⟨v, h8, h9⟩ := h7 i hi'
      refine ⟨v, hcell v ?_, ?_⟩
      · rw [List.append_assoc, List.getElem?_append_left (by simp; omega), List.getElem?_take_of_lt (by omega)]
        rw [hold] at h8; simpa using h8
      · have e : (splice o.cs off xs)[i]'hi = o.cs[i] := by
          rw [hget, List.getElem?_eq_getElem hi'] at hsp
          injection hsp
        simp only [e]
        exact h9.step hst0
    · rw [if_neg c1] at hsp
      by_cases c2 : i < off + xs.length
      · rw [if_pos c2] at hsp
        have hi2 : i - off < xs.length := by omega
        obtain ⟨u, h8, h9⟩ := hx (i - off) hi2
        refine ⟨u, hcell u ?_, ?_⟩
        · rw [List.append_assoc, List.getElem?_append_right (by simp; omega)]
          have e0 : l.sh + i - (List.take (l.sh + off) cells.toList).length = i - off := by simp; omega
          rw [e0, List.getElem?_append_left (by omega)]
          exact h8
        · have e : (splice o.cs off xs)[i]'hi = xs[i - off] := by
            rw [hget, List.getElem?_eq_getElem hi2] at hsp
            injection hsp
          simp only [e]
          exact h9.step hst0
      · rw [if_neg c2] at hsp
        obtain ⟨v, h8, h9⟩ := h7 i hi'
        refine ⟨v, hcell v ?_, ?_⟩
        · rw [List.append_assoc, List.getElem?_append_right (by simp; omega)]
          have e0 : l.sh + i - (List.take (l.sh + off) cells.toList).length = i - off := by simp; omega
          rw [e0, List.getElem?_append_right (by omega), List.getElem?_drop]
          have e1 : l.sh + off + vs.length + (i - off - vs.length) = l.sh + i := by omega
          rw [e1]
          rw [hold] at h8; simpa using h8
        · have e : (splice o.cs off xs)[i]'hi = o.cs[i] := by
            rw [hget, List.getElem?_eq_getElem hi'] at hsp
            injection hsp
          simp only [e]
          exact h9.step hst0
  have hH := HR.upd h hid hst0 hfr (fun l' hl' => .inr ⟨l', hl', rfl⟩) hor'
  rw [Map.push_self hid] at hst0 hH
  exact ⟨hst0, hH⟩

end Go.Abs
