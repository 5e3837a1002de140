/-
  A general library: each operation of the abstract heap is what the machine does. Part 4: unary operators, conversions, places, parts.
-/
import Derived.Test.YthchfbanjeiieaaAbs5
set_option linter.unusedSimpArgs false
set_option linter.unusedVariables false
namespace Go.Abs

section
variable {P : Program} {ι : Map} {σ : Heap} {w : World}

theorem unE_ok {op : UnOp} {x : AV} {t : T} (h : unE op x = some t) {u : Value} (hx : VR ι w x u) : ∃ z, (Op.unary op u).run P w = .ok z w ∧ TR ι.un w t z := by
  unfold unE at h
  split at h
  · rename_i b
    obtain rfl := bool_of hx
    injection h with h; subst h
    exact ⟨_, by simp [Op.unary], .bool _⟩
  · rename_i k n
    obtain rfl := int_of hx
    injection h with h; subst h
    exact ⟨_, by simp [Op.unary, Op.intArith], .int _ _⟩
  · rename_i k n
    obtain rfl := int_of hx
    simp only [intE] at h
    injection h with h; subst h
    exact ⟨_, by simp only [Op.unary]; rfl, .int _ _⟩
  · cases h

theorem kind_int {xT : TypeId} {i : TInf} (ht : tinf P xT = some i) {k : IntKind} (hk : i.kind = .int k) : P.underlying xT = some (.int k) := by
  obtain ⟨d, h1, h2, h3⟩ := tinf_und ht (default : World)
  rw [hk] at h2
  cases d <;> simp [kindOf] at h2
  subst h2
  exact h3
theorem kind_string {xT : TypeId} {i : TInf} (ht : tinf P xT = some i) (hk : i.kind = .string) : P.underlying xT = some .string := by
  obtain ⟨d, h1, h2, h3⟩ := tinf_und ht (default : World)
  rw [hk] at h2
  cases d <;> simp [kindOf] at h2
  exact h3
theorem kind_slice {xT : TypeId} {i : TInf} (ht : tinf P xT = some i) {e : TypeId} (hk : i.kind = .slice e) : P.underlying xT = some (.slice e) := by
  obtain ⟨d, h1, h2, h3⟩ := tinf_und ht (default : World)
  rw [hk] at h2
  cases d <;> simp [kindOf] at h2
  subst h2
  exact h3
theorem kind_array {xT : TypeId} {i : TInf} (ht : tinf P xT = some i) {n : Nat} {e : TypeId} (hk : i.kind = .array n e) : P.underlying xT = some (.array n e) := by
  obtain ⟨d, h1, h2, h3⟩ := tinf_und ht (default : World)
  rw [hk] at h2
  cases d <;> simp [kindOf] at h2
  obtain ⟨rfl, rfl⟩ := h2
  exact h3
theorem kind_struct {xT : TypeId} {i : TInf} (ht : tinf P xT = some i) {fs : List (Nat × TypeId)} (hk : i.kind = .struct fs) :
    ∃ gs : Array Field, P.underlying xT = some (.struct gs) ∧ fs = gs.toList.map fun f => (f.offset, f.type) := by
  obtain ⟨d, h1, h2, h3⟩ := tinf_und ht (default : World)
  rw [hk] at h2
  cases d <;> simp [kindOf] at h2
  exact ⟨_, h3, h2⟩

theorem convE_ok {src dst : TypeId} {x : AV} {t : T} (h : convE P src dst x = some t) {u : Value} (hx : VR ι w x u) : ∃ z, (convert src dst u).run P w = .ok z w ∧ TR ι.un w t z := by
  unfold convE at h
  split at h
  · rename_i i j k n hi hj
    obtain rfl := int_of hx
    split at h
    · rename_i k' hk
      injection h with h; subst h
      obtain ⟨d, h1, _, h3⟩ := tinf_und hi w
      refine ⟨_, ?_, .int _ _⟩
      simp [convert, run_underlying (kind_int hj hk), h1, Conv.intToInt]
    · cases h
  · rename_i i j s hi hj
    obtain rfl := str_of hx
    split at h
    · rename_i hk
      injection h with h; subst h
      obtain ⟨d, h1, _, h3⟩ := tinf_und hi w
      refine ⟨_, ?_, .str _⟩
      simp only [convert, Sem.run_bind, run_underlying (kind_string hj hk), h1, Result.andThen_ok]
      rfl
    · cases h
  · cases h

theorem intOf_ok {x : AV} {n : Int} (h : intOfAV x = some n) {u : Value} (hx : VR ι w x u) : ∃ k, u = .int k n := by
  unfold intOfAV at h
  split at h
  · injection h with h; subst h
    exact ⟨_, int_of hx⟩
  · cases h

/-- moving a pointer -/
theorem ptr_move {r : Ref} {v : Value} (h : VR ι w (.c (.ptr r)) v) : ∃ a : Addr, v = .pointer (some a) ∧ ∀ n, VR ι w (.c (.ptr { r with off := r.off + n })) (.pointer (some (a.add n))) := by
  obtain ⟨a, rfl, s, h1, h2, h3⟩ := h
  refine ⟨a, rfl, fun n => ⟨_, rfl, s, h1, h2, fun he => ?_⟩⟩
  obtain ⟨l, hl, e⟩ := h3 he
  injection e with e
  refine ⟨l, hl, ?_⟩
  rw [e, add_mk, Nat.add_assoc]

theorem iptr_move {cs : List T} {v : Value} (h : VR ι w (.c (.t (.iptr cs))) v) : ∃ a : Addr, v = .pointer (some a) ∧ ∀ n, VR ι w (.c (.t (.iptr (cs.drop n)))) (.pointer (some (a.add n))) := by
  cases h with
  | iptr cs b off f h1 h2 h3 h4 =>
    refine ⟨_, rfl, fun n => ?_⟩
    rw [add_mk]
    refine TR.iptr _ _ _ (fun i => f (n + i)) h1 h2 (fun i hi => ?_) (fun i hi => ?_)
    · rw [Nat.add_assoc]; exact h3 (n + i) (by simp at hi; omega)
    · have := h4 (n + i) (by simp at hi; omega)
      simpa using this

theorem fieldAddrE_ok {t : TypeId} {x y : AV} {f : Nat} (h : fieldAddrE P t x f = some y) {u : Value} (hx : VR ι w x u) :
    ∃ z, (Instr.fieldAt t u f).run P w = .ok z w ∧ VR ι w y z := by
  unfold fieldAddrE at h
  split at h
  · rename_i i hi
    split at h
    · rename_i fs hk
      obtain ⟨gs, hu, rfl⟩ := kind_struct hi hk
      split at h
      · rename_i off ft hf
        simp only [List.getElem?_map, Option.map_eq_some_iff, Prod.mk.injEq] at hf
        obtain ⟨g, hg, rfl, rfl⟩ := hf
        have hg' : gs[f]? = some g := by simpa using hg
        split at h
        · rename_i j hj
          split at h
          · rename_i hpos
            have hz := tinf_size hj w
            have hne : ¬ j.size = 0 := by omega
            split at h
            · rename_i r
              injection h with h; subst h
              obtain ⟨a, rfl, hm⟩ := ptr_move hx
              exact ⟨_, by simp [Instr.fieldAt, run_underlying hu, hg', Instr.sureAddr, fieldPlace, hz, hne], hm _⟩
            · rename_i cs
              injection h with h; subst h
              obtain ⟨a, rfl, hm⟩ := iptr_move hx
              exact ⟨_, by simp [Instr.fieldAt, run_underlying hu, hg', Instr.sureAddr, fieldPlace, hz, hne], hm _⟩
            · cases h
          · cases h
        · cases h
      · cases h
    · cases h
  · cases h

theorem partE_ok {t : TypeId} {j : TInf} (hj : tinf P t = some j) {cs : List Cell} {off : Nat} {y : AV} (h : partE j cs off = some y) {arr : Array Value} (hn : arr.size = cs.length)
    (hc : ∀ i (hi : i < cs.length), ∃ u, arr[i]? = some u ∧ CR ι w cs[i] u) : ∃ z, (part t arr off).run P w = .ok z w ∧ VR ι w y z := by
  unfold partE at h
  have ha := tinf_agg hj w
  have hz := tinf_size hj w
  cases hagg : j.isAgg with
  | true =>
    rw [hagg] at ha h
    simp only [if_true] at h
    split at h
    · rename_i hle
      injection h with h; subst h
      refine ⟨_, by simp [part, ha, hz]; rfl, _, rfl, by simp; omega, fun i hi => ?_⟩
      have hi' : i < j.size := by simp at hi; omega
      obtain ⟨u, h1, h2⟩ := hc (off + i) (by omega)
      refine ⟨u, ?_, by simpa using h2⟩
      rw [← h1]
      simp [Array.getElem?_extract, hi']
      intro hge
      omega
    · cases h
  | false =>
    rw [hagg] at ha h
    simp only [Bool.false_eq_true, if_false] at h
    split at h
    · rename_i c hco
      injection h with h; subst h
      have hlt : off < cs.length := (List.getElem?_eq_some_iff.1 hco).1
      obtain ⟨u, h1, h2⟩ := hc off hlt
      refine ⟨u, by simp [part, ha, h1], ?_⟩
      have e : cs[off] = c := by
        rw [List.getElem?_eq_getElem hlt] at hco
        injection hco
      rw [e] at h2
      exact h2
    · cases h

theorem fieldE_ok {t : TypeId} {x y : AV} {f : Nat} (h : fieldE P t x f = some y) {u : Value} (hx : VR ι w x u) :
    ∃ z, (Instr.field t u f).run P w = .ok z w ∧ VR ι w y z := by
  unfold fieldE at h
  split at h
  · rename_i i hi
    split at h
    · rename_i fs cs hk
      obtain ⟨gs, hu, rfl⟩ := kind_struct hi hk
      obtain ⟨arr, rfl, hn, hc⟩ := hx
      split at h
      · rename_i off ft hf
        simp only [List.getElem?_map, Option.map_eq_some_iff, Prod.mk.injEq] at hf
        obtain ⟨g, hg, rfl, rfl⟩ := hf
        have hg' : gs[f]? = some g := by simpa using hg
        split at h
        · rename_i j hj
          obtain ⟨z, h1, h2⟩ := partE_ok hj h hn hc
          exact ⟨z, by simp [Instr.field, run_underlying hu, hg', asAgg, h1], h2⟩
        · cases h
      · cases h
    · cases h
  · cases h

theorem sl_parts {r : Ref} {len : Nat} {cap : Option Nat} {v : Value} (h : VR ι w (.c (.sl r len cap)) v) : ∃ a c, v = .slice a len c ∧ (len = 0 ∨ a.isSome = true) ∧ refAt ι r (slOk r.off len cap a c) := h

theorem imm_len {cs : List T} {len : Nat} {cap : Option Nat} {v : Value} (h : VR ι w (.c (.t (.imm cs len cap))) v) : ∃ a c, v = .slice a len c ∧ capOk cap c ∧ len ≤ c := by
  cases h with
  | imm0 cap a c hc => exact ⟨a, c, rfl, hc, Nat.zero_le _⟩
  | imm cs len cap b off c f _ _ hc hle _ _ => exact ⟨_, c, rfl, hc, hle⟩

theorem indexAddrE_ok (hh : HR ι σ w) {t : TypeId} {x i y : AV} (h : indexAddrE P t x i = some y) {u v : Value} (hx : VR ι w x u) (hi : VR ι w i v) :
    ∃ z, (Instr.indexAt t u v).run P w = .ok z w ∧ VR ι w y z := by
  unfold indexAddrE at h
  split at h
  · rename_i inf n hinf hn
    obtain ⟨k, rfl⟩ := intOf_ok hn hi
    split at h
    · rename_i e hk
      have hu := kind_slice hinf hk
      split at h
      · rename_i j hj
        have hz := tinf_size hj w
        split at h
        · rename_i r len cap
          split at h
          · rename_i hb
            injection h with h; subst h
            obtain ⟨a, c, rfl, h0, s, h1, h2, h3⟩ := hx
            cases a with
            | none =>
              rcases h0 with h0 | h0
              · omega
              · simp at h0
            | some a =>
              refine ⟨.pointer (some (a.add (n.toNat * j.size))), by simp [Instr.indexAt, asIntOf, run_underlying hu, hb, hz], _, rfl, s, h1, h2, fun he => ?_⟩
              obtain ⟨h4, h5, h6⟩ := h3 he
              cases hl : s.loc with
              | none => rw [hl] at h6; omega
              | some l =>
                rw [hl] at h6
                obtain ⟨h7, _⟩ := h6
                injection h7 with h7
                exact ⟨l, hl, by rw [h7, add_mk, Nat.add_assoc]⟩
          · cases h
        · rename_i cs len cap
          split at h
          · rename_i hb
            injection h with h; subst h
            cases hx with
            | imm0 cap a c hc => omega
            | imm cs len cap b off c f h1 h2 hc hle h3 h4 =>
              refine ⟨.pointer (some ((⟨b, off, none⟩ : Addr).add (n.toNat * j.size))), by simp [Instr.indexAt, asIntOf, run_underlying hu, hb, hz], ?_⟩
              obtain ⟨a, ha, hm⟩ := iptr_move (ι := ι) (w := w) (cs := cs) (TR.iptr cs b off f h1 h2 h3 h4)
              injection ha with ha
              injection ha with ha
              subst ha
              exact hm _
          · cases h
        · cases h
      · cases h
    · rename_i len e hk
      have hu := kind_array hinf hk
      split at h
      · rename_i j hj
        have hz := tinf_size hj w
        split at h
        · rename_i r
          split at h
          · rename_i hb
            injection h with h; subst h
            obtain ⟨a, rfl, hm⟩ := ptr_move hx
            exact ⟨_, by simp [Instr.indexAt, asIntOf, run_underlying hu, Instr.sureAddr, hb, hz], hm _⟩
          · cases h
        · rename_i cs
          split at h
          · rename_i hb
            injection h with h; subst h
            obtain ⟨a, rfl, hm⟩ := iptr_move hx
            exact ⟨_, by simp [Instr.indexAt, asIntOf, run_underlying hu, Instr.sureAddr, hb, hz], hm _⟩
          · cases h
        · cases h
      · cases h
    · cases h
  · cases h

end
end Go.Abs
