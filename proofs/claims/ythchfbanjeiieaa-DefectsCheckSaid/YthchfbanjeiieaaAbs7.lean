/-
  A general library: each operation of the abstract heap is what the machine does. Part 5: index, extract, slices of slices, built-in functions that only read.
-/
import Derived.Test.YthchfbanjeiieaaAbs6
set_option linter.unusedSimpArgs false
set_option linter.unusedVariables false
namespace Go.Abs

section
variable {P : Program} {ι : Map} {σ : Heap} {w : World}

theorem byteArray_get? (l : List UInt8) (n : Nat) : (⟨l.toArray⟩ : ByteArray)[n]? = l[n]? := by
  by_cases h : n < l.length
  · have h2 : n < (⟨l.toArray⟩ : ByteArray).size := by simpa [ByteArray.size] using h
    rw [getElem?_pos (⟨l.toArray⟩ : ByteArray) n h2, List.getElem?_eq_getElem h]
    rfl
  · have h2 : ¬ n < (⟨l.toArray⟩ : ByteArray).size := by simpa [ByteArray.size] using h
    rw [getElem?_neg (⟨l.toArray⟩ : ByteArray) n h2, List.getElem?_eq_none (by omega)]

theorem indexE_ok {t : TypeId} {x i y : AV} (h : indexE P t x i = some y) {u v : Value} (hx : VR ι w x u) (hi : VR ι w i v) :
    ∃ z, (Instr.index t u v).run P w = .ok z w ∧ VR ι w y z := by
  unfold indexE at h
  split at h
  · rename_i inf n hinf hn
    obtain ⟨k, rfl⟩ := intOf_ok hn hi
    split at h
    · rename_i len e cs hk
      have hu := kind_array hinf hk
      obtain ⟨arr, rfl, hs, hc⟩ := hx
      split at h
      · rename_i j hj
        have hz := tinf_size hj w
        split at h
        · rename_i hb
          obtain ⟨z, h1, h2⟩ := partE_ok hj h hs hc
          exact ⟨z, by simp [Instr.index, asIntOf, run_underlying hu, hb, hz, h1], h2⟩
        · cases h
      · cases h
    · rename_i s hk
      have hu := kind_string hinf hk
      obtain rfl := str_of hx
      split at h
      · rename_i h0
        split at h
        · rename_i b hb
          injection h with h; subst h
          refine ⟨.int .u8 b.toNat, ?_, .int _ _⟩
          simp [Instr.index, asIntOf, run_underlying hu, h0, byteArray_get?, hb]
        · cases h
      · cases h
    · cases h
  · cases h

theorem extractE_ok {x y : AV} {i : Nat} (h : extractE x i = some y) {u : Value} (hx : VR ι w x u) : ∃ z, (Instr.extract u i).run P w = .ok z w ∧ VR ι w y z := by
  unfold extractE at h
  split at h
  · rename_i xs
    obtain ⟨arr, rfl, hn, hc⟩ := hx
    split at h
    · rename_i c hco
      injection h with h; subst h
      have hlt : i < xs.length := (List.getElem?_eq_some_iff.1 hco).1
      obtain ⟨u, h1, h2⟩ := hc i hlt
      have e : xs[i] = .inl c := by rw [List.getElem?_eq_getElem hlt] at hco; injection hco
      rw [e] at h2
      exact ⟨u, by simp [Instr.extract, h1], h2⟩
    · rename_i c hco
      injection h with h; subst h
      have hlt : i < xs.length := (List.getElem?_eq_some_iff.1 hco).1
      obtain ⟨u, h1, h2⟩ := hc i hlt
      have e : xs[i] = .inr c := by rw [List.getElem?_eq_getElem hlt] at hco; injection hco
      rw [e] at h2
      exact ⟨u, by simp [Instr.extract, h1], h2⟩
    · cases h
  · cases h

/-! ### slices of slices and strings -/
def optR (ι : Map) (w : World) : Option AV → Option Value → Prop
  | none, none => True
  | some v, some u => VR ι w v u
  | _, _ => False

theorem evo_ok {N : Nat} {r : Regs} {a : Act} (hr : RegR N ι w r a) {x : Option Operand} {v : Option AV} (h : evo r x = some v) : optR ι w v (x.map a.eval) := by
  cases x with
  | none =>
    simp only [evo, Option.some.injEq] at h
    subst h
    trivial
  | some x =>
    simp only [evo, Option.map_eq_some_iff] at h
    obtain ⟨u, h1, rfl⟩ := h
    exact ev_ok hr h1

theorem bound_ok {x : Option AV} {dflt top n : Nat} (h : boundE x dflt top = some n) {xo : Option Value} (hx : optR ι w x xo) :
    (x = none ∧ xo = none ∧ n = dflt) ∨ (∃ k, xo = some (.int k (n : Int)) ∧ n ≤ top ∧ x.isSome = true) := by
  unfold boundE at h
  split at h
  · injection h with h
    subst h
    cases xo with
    | none => exact .inl ⟨rfl, rfl, rfl⟩
    | some u => exact hx.elim
  · rename_i v
    cases xo with
    | none => exact hx.elim
    | some u =>
      split at h
      · rename_i m hm
        obtain ⟨k, rfl⟩ := intOf_ok hm hx
        split at h
        · rename_i hb
          injection h with h
          subst h
          refine .inr ⟨k, ?_, by omega, rfl⟩
          congr 2
          omega
        · cases h
      · cases h

theorem run_bound (k : IntKind) (n y : Nat) (code : BoundsCode) (h : n ≤ y) : (Instr.sliceBound (.int k (n : Int)) y code).run P w = .ok n w := by
  have : (0 : Int) ≤ n ∧ (n : Int) ≤ y := by omega
  simp [Instr.sliceBound, asIntOf, this]

/-- the bounds of 's[lo:hi:mx]' -/
theorem run_bounds {isSlice : Bool} {len cap l h m : Nat} {lo hi mx : Option Value}
    (hm : (mx = none ∧ m = cap) ∨ ∃ k, mx = some (.int k (m : Int)) ∧ m ≤ cap) (hh : (hi = none ∧ mx = none ∧ h = len) ∨ ∃ k, hi = some (.int k (h : Int)) ∧ h ≤ m)
    (hl : (lo = none ∧ l = 0) ∨ ∃ k, lo = some (.int k (l : Int)) ∧ l ≤ h) : (Instr.sliceBounds isSlice len cap lo hi mx).run P w = .ok (l, h, m) w := by
  rcases hm with ⟨rfl, rfl⟩ | ⟨k, rfl, hm⟩
  · rcases hh with ⟨rfl, _, rfl⟩ | ⟨k2, rfl, hh⟩
    · rcases hl with ⟨rfl, rfl⟩ | ⟨k3, rfl, hl⟩
      · simp [Instr.sliceBounds]
      · simp [Instr.sliceBounds, run_bound _ _ _ _ hl]
    · rcases hl with ⟨rfl, rfl⟩ | ⟨k3, rfl, hl⟩
      · simp [Instr.sliceBounds, run_bound _ _ _ _ hh]
      · simp [Instr.sliceBounds, run_bound _ _ _ _ hh, run_bound _ _ _ _ hl]
  · rcases hh with ⟨rfl, h2, rfl⟩ | ⟨k2, rfl, hh⟩
    · cases h2
    · rcases hl with ⟨rfl, rfl⟩ | ⟨k3, rfl, hl⟩
      · simp [Instr.sliceBounds, run_bound _ _ _ _ hm, run_bound _ _ _ _ hh]
      · simp [Instr.sliceBounds, run_bound _ _ _ _ hm, run_bound _ _ _ _ hh, run_bound _ _ _ _ hl]

theorem bytes_extract (s : List UInt8) (l h : Nat) : (⟨s.toArray⟩ : ByteArray).extract l h = ⟨((s.drop l).take (h - l)).toArray⟩ := by
  apply ByteArray.ext
  simp [ByteArray.data_extract]

theorem run_slice_of {t e : TypeId} (hu : P.underlying t = some (.slice e)) {j : TInf} (hj : tinf P e = some j) (a : Option Addr) {len c l h m : Nat} {lo hi mx : Option Value}
    (hb : (Instr.sliceBounds true len c lo hi mx).run P w = .ok (l, h, m) w) :
    (Instr.sliceAt t (.slice a len c) lo hi mx).run P w = .ok (.slice (if m = l then a else a.map (·.add (l * j.size))) (h - l) (m - l)) w := by
  have hz := tinf_size hj w
  simp [Instr.sliceAt, Instr.slice, run_underlying hu, hb, hz]

theorem imm_slice {cs : List T} {len : Nat} {cap : Option Nat} {v : Value} (hx : VR ι w (.c (.t (.imm cs len cap))) v) {sz : Nat} (hcs : cs.length = len * sz) {l h m : Nat} (hlh : l ≤ h) (hhl : h ≤ len)
    (cap' : Option Nat) (hcap : capOk cap' (m - l)) (hhm : h ≤ m) {a : Option Addr} {c : Nat} (hv : v = .slice a len c) :
    VR ι w (.c (.t (.imm ((cs.drop (l * sz)).take ((h - l) * sz)) (h - l) cap'))) (.slice (if m = l then a else a.map (·.add (l * sz))) (h - l) (m - l)) := by
  by_cases he : h - l = 0
  · have : (cs.drop (l * sz)).take ((h - l) * sz) = [] := by rw [he]; simp
    rw [this, he]
    exact TR.imm0 _ _ _ hcap
  · have hml : ¬ m = l := by omega
    rw [if_neg hml]
    subst hv
    cases hx with
    | imm0 => omega
    | imm cs len cap b off c f h1 h2 hc hle h3 h4 =>
      simp only [Option.map_some, add_mk]
      refine TR.imm _ _ _ b (off + l * sz) (m - l) (fun i => f (l * sz + i)) h1 h2 hcap (by omega) (fun i hi => ?_) (fun i hi => ?_)
      · have hi' : l * sz + i < cs.length := by simp at hi; omega
        rw [Nat.add_assoc]; exact h3 _ hi'
      · have hi' : l * sz + i < cs.length := by simp at hi; omega
        have := h4 _ hi'
        simpa using this

theorem sl_slice {r : Ref} {len : Nat} {cap : Option Nat} {s : Spot} (hs : ι r.id = some s) (hep : r.ep = s.ep) {a : Option Addr} {c : Nat} (hok : slOk r.off len cap a c s) {sz : Nat} (hsz : s.es = sz) {l h m : Nat}
    (hlh : l ≤ h) (hhm : h ≤ m) (hmc : m ≤ c) (cap' : Option Nat) (hcap : capOk cap' (m - l)) (hnone : cap' = none → cap = none ∧ m = c ∧ (l < len ∨ l = 0)) (off' : Nat) (hoff : off' = if m = l then r.off else r.off + l * sz) :
    VR ι w (.c (.sl { r with off := off' } (h - l) cap')) (.slice (if m = l then a else a.map (·.add (l * sz))) (h - l) (m - l)) := by
  obtain ⟨h1, h2, h3⟩ := hok
  refine ⟨_, _, rfl, ?_, s, hs, Nat.le_of_eq hep, fun _ => ⟨by omega, hcap, ?_⟩⟩
  · cases hl : s.loc with
    | none => rw [hl] at h3; left; omega
    | some lc =>
      rw [hl] at h3
      obtain ⟨rfl, _⟩ := h3
      right; split <;> rfl
  · cases hl : s.loc with
    | none =>
      rw [hl] at h3
      obtain ⟨h4, h5, h6⟩ := h3
      subst h5
      have : m = l := by omega
      exact ⟨by omega, by omega, by rw [hoff, if_pos this]; exact h6⟩
    | some lc =>
      rw [hl] at h3
      obtain ⟨rfl, h5, h6⟩ := h3
      have hmul : (c - l) * sz = c * sz - l * sz := Nat.sub_mul c l sz
      have hmul2 : (m - l) * sz = m * sz - l * sz := Nat.sub_mul m l sz
      have hle1 : l * sz ≤ m * sz := Nat.mul_le_mul_right _ (by omega)
      have hle2 : m * sz ≤ c * sz := Nat.mul_le_mul_right _ hmc
      rw [hsz] at h5 h6 ⊢
      subst hoff
      refine ⟨?_, ?_, fun hn => ?_⟩
      · split
        · rfl
        · simp [add_mk, Nat.add_assoc]
      · split
        · have : (m - l) * sz = 0 := by rw [show m - l = 0 by omega]; simp
          dsimp only; omega
        · rw [hmul2]; dsimp only; omega
      · obtain ⟨hc1, hc2, hc3⟩ := hnone hn
        have := h6 hc1
        subst hc2
        split
        · rename_i e; subst e
          rcases hc3 with hc3 | hc3
          · exact absurd hc3 (by omega)
          · subst hc3
            dsimp only; simpa using this
        · rw [hmul2]; dsimp only; omega

theorem sliceE_ok (hh : HR ι σ w) {t : TypeId} {x y : AV} {lo hi mx : Option AV} (h : sliceE P σ t x lo hi mx = some y) {u : Value} (hx : VR ι w x u) {lo' hi' mx' : Option Value}
    (hlo : optR ι w lo lo') (hhi : optR ι w hi hi') (hmx : optR ι w mx mx') : ∃ z, (Instr.sliceAt t u lo' hi' mx').run P w = .ok z w ∧ VR ι w y z := by
  unfold sliceE at h
  split at h
  · rename_i inf hinf
    split at h
    · -- a string
      rename_i s hk
      have hu := kind_string hinf hk
      obtain rfl := str_of hx
      split at h
      · rename_i h' hb
        split at h
        · rename_i l hl
          injection h with h; subst h
          cases mx' with
          | some _ => exact hmx.elim
          | none =>
            have hsz : (⟨s.toArray⟩ : ByteArray).size = s.length := by simp [ByteArray.size]
            have hbs : (Instr.sliceBounds false s.length s.length lo' hi' none).run P w = .ok (l, h', s.length) w := by
              refine run_bounds (.inl ⟨rfl, rfl⟩) ?_ ?_
              · rcases bound_ok hb hhi with ⟨_, h2, h3⟩ | ⟨k, h2, h3, _⟩
                · exact .inl ⟨h2, rfl, h3⟩
                · exact .inr ⟨k, h2, h3⟩
              · rcases bound_ok hl hlo with ⟨_, h2, h3⟩ | ⟨k, h2, h3, _⟩
                · exact .inl ⟨h2, h3⟩
                · exact .inr ⟨k, h2, h3⟩
            refine ⟨.string ((⟨s.toArray⟩ : ByteArray).extract l h'), ?_, ?_⟩
            · simp [Instr.sliceAt, Instr.slice, run_underlying hu, hsz, hbs]
            · rw [bytes_extract]; exact TR.str _
        · cases h
      · cases h
    · -- a slice of one's own
      rename_i e r len cap hk
      have hu := kind_slice hinf hk
      split at h
      · rename_i j o hj ho
        split at h
        · rename_i hes
          obtain ⟨a, c, rfl, hsome, hr⟩ := hx
          obtain ⟨s, hs, _, hep, hor, hok⟩ := hh.ref ho hr
          have hes' : s.es = j.size := by rw [← hor.1]; exact hes
          have hep' : r.ep = s.ep := by rw [← hor.2.1]; exact hep.symm
          have hroom : cap.getD len ≤ c := by
            obtain ⟨h1, h2, _⟩ := hok
            cases cap with
            | none => exact h1
            | some k => simp only [capOk] at h2; subst h2; exact Nat.le_refl _
          split at h
          · -- 's[lo:hi:mx]'
            rename_i mv hv
            split at h
            · rename_i m hm
              split at h
              · rename_i h' hh'
                split at h
                · rename_i l hl
                  injection h with h; subst h
                  rcases bound_ok hm hmx with ⟨h2, _⟩ | ⟨km, hm2, hm3, _⟩
                  · cases h2
                  rcases bound_ok hh' hhi with ⟨h2, _⟩ | ⟨kh, hh2, hh3, _⟩
                  · cases h2
                  have hlb : (lo' = none ∧ l = 0) ∨ ∃ k, lo' = some (.int k (l : Int)) ∧ l ≤ h' := by
                    rcases bound_ok hl hlo with ⟨_, h2, h3⟩ | ⟨k, h2, h3, _⟩
                    · exact .inl ⟨h2, h3⟩
                    · exact .inr ⟨k, h2, h3⟩
                  have hlh : l ≤ h' := by rcases hlb with ⟨_, e⟩ | ⟨_, _, e⟩ <;> omega
                  have hb := run_bounds (P := P) (w := w) (isSlice := true) (len := len) (cap := c) (m := m) (h := h') (l := l) (.inr ⟨km, hm2, Nat.le_trans hm3 hroom⟩) (.inr ⟨kh, hh2, hh3⟩) hlb
                  exact ⟨_, run_slice_of hu hj a hb, sl_slice hs hep' hok hes' hlh hh3 (Nat.le_trans hm3 hroom) (some (m - l)) rfl (fun e => by cases e) _ rfl⟩
                · cases h
              · cases h
            · cases h
          · cases h
          · -- 's[lo:hi]'
            have hmx' : mx' = none := by
              cases mx' with
              | none => rfl
              | some _ => exact hmx.elim
            split at h
            · rename_i h' hh'
              split at h
              · rename_i l hl
                have hlb : (lo' = none ∧ l = 0) ∨ ∃ k, lo' = some (.int k (l : Int)) ∧ l ≤ h' := by
                  rcases bound_ok hl hlo with ⟨_, h2, h3⟩ | ⟨k, h2, h3, _⟩
                  · exact .inl ⟨h2, h3⟩
                  · exact .inr ⟨k, h2, h3⟩
                have hlh : l ≤ h' := by rcases hlb with ⟨_, e⟩ | ⟨_, _, e⟩ <;> omega
                have hhb : (hi' = none ∧ mx' = none ∧ h' = len) ∨ ∃ k, hi' = some (.int k (h' : Int)) ∧ h' ≤ c := by
                  rcases bound_ok hh' hhi with ⟨_, h2, h3⟩ | ⟨k, h2, h3, _⟩
                  · exact .inl ⟨h2, hmx', h3⟩
                  · exact .inr ⟨k, h2, Nat.le_trans h3 hroom⟩
                have hhc : h' ≤ c := by
                  rcases hhb with ⟨_, _, e⟩ | ⟨_, _, e⟩
                  · have := hok.1; omega
                  · exact e
                have hb := run_bounds (P := P) (w := w) (isSlice := true) (len := len) (cap := c) (m := c) (h := h') (l := l) (.inl ⟨hmx', rfl⟩) hhb hlb
                split at h
                · rename_i k
                  have hck : c = k := hok.2.1
                  subst hck
                  injection h with h; subst h
                  exact ⟨_, run_slice_of hu hj a hb, sl_slice hs hep' hok hes' hlh hhc (Nat.le_refl _) (some (c - l)) rfl (fun e => by cases e) _ rfl⟩
                · split at h
                  · rename_i hl0
                    injection h with h; subst h
                    refine ⟨_, run_slice_of hu hj a hb, sl_slice hs hep' hok hes' hlh hhc (Nat.le_refl _) none trivial (fun _ => ⟨rfl, rfl, hl0⟩) _ ?_⟩
                    split
                    · have := hok.1
                      have h0 : l = 0 := by omega
                      subst h0; simp
                    · rfl
                  · cases h
              · cases h
            · cases h
        · cases h
      · cases h
    · -- an immutable slice
      rename_i e cs len cap hk
      have hu := kind_slice hinf hk
      split at h
      · rename_i j hj
        split at h
        · rename_i hcs
          obtain ⟨a, c, rfl, hcap, hlc⟩ := imm_len hx
          split at h
          · rename_i mv hv
            split at h
            · rename_i m hm
              split at h
              · rename_i h' hh'
                split at h
                · rename_i l hl
                  injection h with h; subst h
                  rcases bound_ok hm hmx with ⟨h2, _⟩ | ⟨km, hm2, hm3, _⟩
                  · cases h2
                  rcases bound_ok hh' hhi with ⟨h2, _⟩ | ⟨kh, hh2, hh3, _⟩
                  · cases h2
                  have hlb : (lo' = none ∧ l = 0) ∨ ∃ k, lo' = some (.int k (l : Int)) ∧ l ≤ h' := by
                    rcases bound_ok hl hlo with ⟨_, h2, h3⟩ | ⟨k, h2, h3, _⟩
                    · exact .inl ⟨h2, h3⟩
                    · exact .inr ⟨k, h2, h3⟩
                  have hlh : l ≤ h' := by rcases hlb with ⟨_, e⟩ | ⟨_, _, e⟩ <;> omega
                  have hb := run_bounds (P := P) (w := w) (isSlice := true) (len := len) (cap := c) (m := m) (h := h') (l := l) (.inr ⟨km, hm2, Nat.le_trans hm3 hlc⟩) (.inr ⟨kh, hh2, hh3⟩) hlb
                  exact ⟨_, run_slice_of hu hj a hb, imm_slice hx hcs hlh (Nat.le_trans hh3 hm3) (some (m - l)) rfl hh3 rfl⟩
                · cases h
              · cases h
            · cases h
          · cases h
          · have hmx' : mx' = none := by
              cases mx' with
              | none => rfl
              | some _ => exact hmx.elim
            split at h
            · rename_i h' hh'
              split at h
              · rename_i l hl
                injection h with h; subst h
                have hlb : (lo' = none ∧ l = 0) ∨ ∃ k, lo' = some (.int k (l : Int)) ∧ l ≤ h' := by
                  rcases bound_ok hl hlo with ⟨_, h2, h3⟩ | ⟨k, h2, h3, _⟩
                  · exact .inl ⟨h2, h3⟩
                  · exact .inr ⟨k, h2, h3⟩
                have hlh : l ≤ h' := by rcases hlb with ⟨_, e⟩ | ⟨_, _, e⟩ <;> omega
                have hhl : h' ≤ len := by
                  rcases bound_ok hh' hhi with ⟨_, _, h3⟩ | ⟨k, _, h3, _⟩
                  · omega
                  · exact h3
                have hhb : (hi' = none ∧ mx' = none ∧ h' = len) ∨ ∃ k, hi' = some (.int k (h' : Int)) ∧ h' ≤ c := by
                  rcases bound_ok hh' hhi with ⟨_, h2, h3⟩ | ⟨k, h2, h3, _⟩
                  · exact .inl ⟨h2, hmx', h3⟩
                  · exact .inr ⟨k, h2, Nat.le_trans h3 hlc⟩
                have hb := run_bounds (P := P) (w := w) (isSlice := true) (len := len) (cap := c) (m := c) (h := h') (l := l) (.inl ⟨hmx', rfl⟩) hhb hlb
                refine ⟨_, run_slice_of hu hj a hb, imm_slice hx hcs hlh hhl _ ?_ (Nat.le_trans hhl hlc) rfl⟩
                cases cap with
                | none => trivial
                | some k => simp only [capOk] at hcap; subst hcap; rfl
              · cases h
            · cases h
        · cases h
      · cases h
    · cases h
  · cases h

end
end Go.Abs
