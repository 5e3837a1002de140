/-
  A general library: the operations on symbolic values do what they stand for. Part 1.
-/
import Derived.Test.YtfcbahfdgopgfaaKR5QSy5
set_option linter.unusedSimpArgs false
set_option linter.unusedVariables false
namespace Go.Abs

structure TyOk (P : Program) (ty : TyT) : Prop where
  ok : ∀ t i c, ty t = some (i, c) → tinf P t = some i
  lay : ∀ t i c, ty t = some (i, some c) → i.size = c.size ∧ ∃ z, i.zero = some z ∧ WL (z.map .t) ((c.trees c.dflt).map .t)

theorem SH.den_get {σ : SH} {id : Nat} {o : SO} (h : σ[id]? = some o) : (SH.den σ)[id]? = some o.den := by
  simp [SH.den, h]
theorem SH.den_length (σ : SH) : (SH.den σ).length = σ.length := by simp [SH.den]
theorem SH.den_set (σ : SH) (id : Nat) (o : SO) : SH.den (σ.set id o) = (SH.den σ).set id o.den := by simp [SH.den, List.map_set]
theorem SH.den_push (σ : SH) (o : SO) : SH.den (σ ++ [o]) = SH.den σ ++ [o.den] := by simp [SH.den]

theorem SH.den_at {σ : SH} {r : Ref} {o : SO} (h : σ[r.id]? = some o) (he : o.den.ep = r.ep) : (SH.den σ).at? r = some o.den := by
  simp only [Heap.at?, SH.den_get h]
  rw [if_pos he]

theorem splice_den (cs : List SC) (off : Nat) (xs : List SC) : (spliceS cs off xs).map SC.den = splice (cs.map SC.den) off (xs.map SC.den) := by
  simp [spliceS, splice, List.map_take, List.map_drop]

section
variable {P : Program} {ty : TyT} {σ : SH}

theorem loadCS_ok {i : TInf} {cs : List SC} {v : SV} (h : loadCS i cs = some v) : loadC i (cs.map SC.den) = some v.den := by
  unfold loadCS at h
  unfold loadC
  split at h
  · rename_i hi
    split at h
    · rename_i hl
      injection h with h
      subst h
      simp [hi, leB' hl, SV.den, List.map_take]
    · cases h
  · rename_i hi
    rw [if_neg (by simp [hi])]
    cases cs with
    | nil => cases h
    | cons c cs => injection h with h; subst h; rfl

/-- more cells behind do not matter -/
theorem loadC_more {i : TInf} {cs ds : List Cell} (hi : 0 < i.size ∨ i.isAgg = true) (hl : i.size ≤ cs.length) (h0 : i.isAgg = false → i.size = 1) : loadC i (cs ++ ds) = loadC i cs := by
  unfold loadC
  by_cases ha : i.isAgg = true
  · simp only [ha, if_true]
    rw [if_pos (by simp; omega), if_pos hl, List.take_append_of_le_length hl]
  · simp only [ha, Bool.false_eq_true, if_false]
    have h1 := h0 (by simpa using ha)
    cases cs with
    | nil => simp at hl; omega
    | cons c cs => rfl

theorem loadCS_some {i : TInf} {cs : List SC} {v : SV} (h : loadCS i cs = some v) {ds : List Cell} : loadC i (cs.map SC.den ++ ds) = some v.den := by
  have h' := loadCS_ok h
  unfold loadCS at h
  split at h
  · rename_i ha
    split at h
    · rename_i hl
      rw [loadC_more (.inr ha) (by simpa using leB' hl) (by simp [ha])]
      exact h'
    · cases h
  · rename_i ha
    cases cs with
    | nil => cases h
    | cons c cs => simpa [loadC, ha] using h'

theorem den_drop (cs : List SC) (n : Nat) : (cs.map SC.den).drop n = (cs.drop n).map SC.den := by simp

theorem view_drop (c : Ly) (x : c.ty) (off : Nat) : ((c.trees x).drop off).map Cell.t = ((c.view x).drop off).map SC.den := by
  rw [List.map_drop, ← c.view_den, ← List.map_drop]

theorem loadS_ok {i : TInf} {a : SC} {v : SV} (h : loadS σ i a = some (true, v)) : loadE (SH.den σ) i (.c a.den) = some v.den := by
  unfold loadS at h
  split at h
  · -- ptr
    rename_i id off
    split at h
    · rename_i cs es ep ho
      split at h
      · rename_i he
        rw [Option.map_eq_some_iff] at h
        obtain ⟨u, h1, h2⟩ := h
        injection h2 with _ h2
        subst h2
        have hat : (SH.den σ).at? ⟨id, 0, off⟩ = some (SO.st cs es ep).den := SH.den_at ho (eqB he)
        simp only [SC.den, loadE, hat]
        show loadC i ((cs.map SC.den).drop off) = _
        rw [den_drop]
        exact loadCS_ok h1
      · cases h
    · cases h
  · -- el
    rename_i id ep es k off
    split at h
    · rename_i c xs ep' ho
      split at h
      · rename_i he hs
        split at h
        · rename_i hb
          rw [Option.map_eq_some_iff] at h
          obtain ⟨u, h1, h2⟩ := h
          injection h2 with h3 h2
          subst h2
          have hk : k < xs.length := by simpa using h3
          have hat : (SH.den σ).at? ⟨id, ep, k * es + off⟩ = some (SO.arr c xs ep').den := SH.den_at ho (eqB he)
          simp only [SC.den, loadE, hat]
          show loadC i (((xs.flatMap c.trees).map Cell.t).drop (k * es + off)) = _
          have hb' := leB' hb
          rw [eqB hs, ← List.drop_drop, ← List.map_drop, flat_at c hk, ← List.map_drop, List.drop_append_of_le_length (by rw [c.trees_length]; omega), List.map_append, view_drop]
          exact loadCS_some h1
        · cases h
      · cases h
    · rename_i cs es' ep' ho
      split at h
      · rename_i he hs
        rw [Option.map_eq_some_iff] at h
        obtain ⟨u, h1, h2⟩ := h
        injection h2 with _ h2
        subst h2
        have hat : (SH.den σ).at? ⟨id, ep, k * es + off⟩ = some (SO.st cs es' ep').den := SH.den_at ho (eqB he)
        simp only [SC.den, loadE, hat]
        show loadC i ((cs.map SC.den).drop _) = _
        rw [den_drop]
        exact loadCS_ok h1
      · cases h
    · cases h
  · -- ip
    rename_i c x off
    split at h
    · rw [Option.map_eq_some_iff] at h
      obtain ⟨u, h1, h2⟩ := h
      injection h2 with _ h2
      subst h2
      simp only [SC.den, loadE]
      rw [view_drop]
      exact loadCS_ok h1
    · cases h
  · -- iel
    rename_i c xs k off
    split at h
    · rename_i hb
      rw [Option.map_eq_some_iff] at h
      obtain ⟨u, h1, h2⟩ := h
      injection h2 with _ h2
      subst h2
      have hb' := leB' hb
      simp only [SC.den, loadE]
      rw [List.drop_append_of_le_length (by rw [c.trees_length]; omega), List.map_append, view_drop]
      exact loadCS_some h1
    · cases h
  · cases h

theorem flat_set (c : Ly) (y : c.ty) : ∀ (xs : List c.ty) (k : Nat), k < xs.length → ((xs.set k y).flatMap c.trees) = (xs.flatMap c.trees).take (k * c.size) ++ c.trees y ++ (xs.flatMap c.trees).drop (k * c.size + c.size)
  | x :: xs, 0, _ => by
    simp only [List.set_cons_zero, List.flatMap_cons, Nat.zero_mul, List.take_zero, List.nil_append, Nat.zero_add]
    rw [List.drop_append, c.trees_length, List.drop_eq_nil_of_le (by rw [c.trees_length]; exact Nat.le_refl _)]
    simp
  | x :: xs, k + 1, h => by
    have ih := flat_set c y xs k (by simpa using h)
    simp only [List.set_cons_succ, List.flatMap_cons, ih]
    rw [List.take_append, List.drop_append, c.trees_length]
    have h1 : (k + 1) * c.size - c.size = k * c.size := by rw [Nat.succ_mul]; omega
    have h2 : (k + 1) * c.size + c.size - c.size = k * c.size + c.size := by rw [Nat.succ_mul]; omega
    have h3 : (c.trees x).take ((k + 1) * c.size) = c.trees x := List.take_of_length_le (by rw [c.trees_length, Nat.succ_mul]; omega)
    have h4 : (c.trees x).drop ((k + 1) * c.size + c.size) = [] := List.drop_eq_nil_of_le (by rw [c.trees_length, Nat.succ_mul]; omega)
    rw [h1, h2, h3, h4]
    simp [List.append_assoc]

theorem WL.take {a b : List Cell} (h : WL a b) (n : Nat) : WL (a.take n) (b.take n) :=
  WL.of_get (by simp [h.length]) fun i hi hi' => by simp only [List.getElem_take]; exact h.get _ _
theorem WL.drop {a b : List Cell} (h : WL a b) (n : Nat) : WL (a.drop n) (b.drop n) :=
  WL.of_get (by simp [h.length]) fun i hi hi' => by simp only [List.getElem_drop]; exact h.get _ _

/-- a part of an element is written -/
theorem splice_elem {c : Ly} {xs : List c.ty} {k off : Nat} (hk : k < xs.length) {vs : List Cell} (hb : off + vs.length ≤ c.size) :
    splice ((xs.flatMap c.trees).map .t) (k * c.size + off) vs = ((xs.flatMap c.trees).map .t).take (k * c.size) ++ splice ((c.trees ((xs[k]?).getD c.dflt)).map .t) off vs ++ ((xs.flatMap c.trees).map .t).drop (k * c.size + c.size) := by
  have hlen : ((xs.flatMap c.trees).map Cell.t).length = xs.length * c.size := by rw [List.length_map, flat_length]
  have hle : (k + 1) * c.size ≤ xs.length * c.size := Nat.mul_le_mul_right _ hk
  rw [Nat.succ_mul] at hle
  have hsplit : (xs.flatMap c.trees).map Cell.t = ((xs.flatMap c.trees).map Cell.t).take (k * c.size) ++ ((c.trees ((xs[k]?).getD c.dflt)).map Cell.t ++ ((xs.drop (k + 1)).flatMap c.trees).map Cell.t) := by
    rw [← List.map_append, ← flat_at c hk, List.map_drop, List.take_append_drop]
  have htk : (((xs.flatMap c.trees).map Cell.t).take (k * c.size)).length = k * c.size := by rw [List.length_take, hlen]; omega
  have htl : ((c.trees ((xs[k]?).getD c.dflt)).map Cell.t).length = c.size := by rw [List.length_map, c.trees_length]
  have hrest : ((xs.drop (k + 1)).flatMap c.trees).map Cell.t = ((xs.flatMap c.trees).map Cell.t).drop (k * c.size + c.size) := by
    rw [← Nat.succ_mul, ← List.map_drop, flat_drop]
  generalize ((xs.flatMap c.trees).map Cell.t).take (k * c.size) = A at hsplit htk ⊢
  rw [← hrest]
  generalize (c.trees ((xs[k]?).getD c.dflt)).map Cell.t = B at hsplit htl ⊢
  generalize ((xs.drop (k + 1)).flatMap c.trees).map Cell.t = C at hsplit ⊢
  rw [hsplit]
  unfold splice
  rw [List.take_append, List.drop_append, htk, List.take_append, List.drop_append, htl]
  have e1 : k * c.size + off - k * c.size = off := by omega
  have e2 : k * c.size + off + vs.length - k * c.size = off + vs.length := by omega
  have e3 : off - c.size = 0 := by omega
  have e4 : off + vs.length - c.size = 0 := by omega
  rw [e1, e2, e3, e4, List.take_of_length_le (by omega), List.drop_eq_nil_of_le (by omega : A.length ≤ k * c.size + off + vs.length)]
  simp [List.append_assoc]

theorem splice_all {cs vs : List Cell} (h : vs.length = cs.length) : splice cs 0 vs = vs := by
  simp [splice, h]

/-- what an operation gives: the same, or weaker; or an empty slice that becomes an object -/
inductive Out (ex : Bool) (σ : Heap) : Option AV → Heap → Option AV → Heap → Prop
  | weak {a b : Option AV} {τ τ' : Heap} : WVO a b → WH τ τ' → (ex = true → a = b ∧ τ = τ') → Out ex σ a τ b τ'
  | own (es : Nat) : ex = false → Out ex σ (some (.c (.t (.imm [] 0 (some 0))))) σ (some (.c (.sl ⟨σ.length, 0, 0⟩ 0 none))) (σ ++ [{ cs := [], es := es }])

theorem Out.same {ex : Bool} {σ : Heap} {a : Option AV} {τ : Heap} : Out ex σ a τ a τ := .weak WVO.rfl' WH.rfl' fun _ => ⟨rfl, rfl⟩

theorem storeS_ok {ex : Bool} {i : TInf} {a : SC} {v : SV} {σ' : SH} (h : storeS ex σ i a v = some (true, σ')) :
    ∃ τ, storeE (SH.den σ) i (.c a.den) v.den = some τ ∧ WH τ (SH.den σ') ∧ (ex = true → τ = SH.den σ') := by
  unfold storeS at h
  split at h
  · rename_i hf hc
    have hf' : v.den.flat = true := by rw [SV.flat_den]; exact hf
    have hc' : v.den.cells.length = i.size := by rw [SV.cells_den, List.length_map]; exact eqB hc
    split at h
    · rename_i id off
      split at h
      · rename_i cs es ep ho
        split at h
        · rename_i he hb
          injection h with h
          injection h with _ h
          subst h
          have hat : (SH.den σ).at? ⟨id, 0, off⟩ = some (SO.st cs es ep).den := SH.den_at ho (eqB he)
          refine ⟨_, ?_, WH.rfl', fun _ => rfl⟩
          simp only [SC.den, storeE, hat]
          rw [if_pos ⟨hf', hc', by simpa [SO.den] using leB' hb⟩, SH.den_set]
          simp [SO.den, splice_den, SV.cells_den]
        · cases h
      · cases h
    · rename_i id ep es k off
      split at h
      · rename_i c xs ep' ho
        split at h
        · rename_i he hs hb
          have hat : (SH.den σ).at? ⟨id, ep, k * es + off⟩ = some (SO.arr c xs ep').den := SH.den_at ho (eqB he)
          have hb' := leB' hb
          have hlen : ((xs.flatMap c.trees).map Cell.t).length = xs.length * c.size := by rw [List.length_map, flat_length]
          have main : ∀ (hk : k < xs.length) (y : c.ty) (l : List SC), splice ((c.trees ((xs[k]?).getD c.dflt)).map Cell.t) off v.den.cells = l.map SC.den → c.enc ex l = some y →
              ∃ τ, storeE (SH.den σ) i (.c (SC.el id ep es k off).den) v.den = some τ ∧ WH τ (SH.den (σ.set id (.arr c (xs.set k y) ep'))) ∧ (ex = true → τ = SH.den (σ.set id (.arr c (xs.set k y) ep'))) := fun hk y l hl hy => by
            have hle : (k + 1) * c.size ≤ xs.length * c.size := Nat.mul_le_mul_right _ hk
            rw [Nat.succ_mul] at hle
            obtain ⟨hw, hx⟩ := Ly.enc_ok hy
            refine ⟨_, by
              simp only [SC.den, storeE, hat]
              rw [if_pos ⟨hf', hc', by simp only [SO.den, hlen, eqB hs]; omega⟩], ?_, ?_⟩
            all_goals simp only [SH.den_set, SO.den]
            all_goals rw [eqB hs, splice_elem hk (by rw [hc']; omega), hl]
            · refine WH.set WH.rfl' ⟨?_, rfl, rfl⟩
              show WL _ (((xs.set k y).flatMap c.trees).map Cell.t)
              rw [flat_set c y xs k hk, List.map_append, List.map_append, List.map_take, List.map_drop]
              exact (WL.rfl'.append hw).append WL.rfl'
            · intro hex
              congr 1
              show _ = ({ cs := ((xs.set k y).flatMap c.trees).map Cell.t, es := c.size, ep := ep' } : Obj)
              rw [flat_set c y xs k hk, List.map_append, List.map_append, List.map_take, List.map_drop, hx hex]
          split at h
          · rename_i ho0 hsz
            split at h
            · rename_i y hy
              injection h with h
              injection h with h1 h
              subst h
              have hk : k < xs.length := by simpa using h1
              exact main hk y v.cells (by rw [eqB ho0, SV.cells_den, splice_all (by rw [List.length_map, List.length_map, c.trees_length, ← eqB hsz]; exact eqB hc)]) hy
            · cases h
          · split at h
            · rename_i y hy
              injection h with h
              injection h with h1 h
              subst h
              have hk : k < xs.length := by simpa using h1
              exact main hk y _ (by rw [splice_den, SV.cells_den, c.view_den]) hy
            · cases h
        · cases h
      · rename_i cs es' ep' ho
        split at h
        · rename_i he hs hb
          injection h with h
          injection h with _ h
          subst h
          have hat : (SH.den σ).at? ⟨id, ep, k * es + off⟩ = some (SO.st cs es' ep').den := SH.den_at ho (eqB he)
          refine ⟨_, ?_, WH.rfl', fun _ => rfl⟩
          simp only [SC.den, storeE, hat]
          rw [if_pos ⟨hf', hc', by simpa [SO.den] using leB' hb⟩, SH.den_set]
          simp [SO.den, splice_den, SV.cells_den]
        · cases h
      · cases h
    · cases h
  · cases h

end
end Go.Abs
