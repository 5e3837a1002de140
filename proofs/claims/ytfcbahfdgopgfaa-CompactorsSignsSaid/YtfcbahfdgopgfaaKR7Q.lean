/-
  CompactorsSigns answers true for every input, leaves the input as it is, and never panics; there is no condition.
-/
import Derived.Test.YtfcbahfdgopgfaaKR7QMq
import Derived.Test.YtfcbahfdgopgfaaKR7QKR0
import Derived.OpenShut
/-
  The row CompactorsSigns.
-/
set_option linter.unusedSimpArgs false
set_option linter.unusedVariables false
namespace Go.Proofs.Ytfcbahfdgopgfaa
open Go.ChangeShapes Go.WideShapes Go.ChangeAt Go.RowKit
open Go.Abs
theorem Try.params7 : Try.f7.params = #[56, 57, 5] := by kernel_rfl
abbrev lL : Ly := .pair (.int .u8) (.int .u64)
theorem lO : TyO Try.prog lL 56 := tyB_ok (n := 5) (by kernel_rfl)
theorem lS : ∃ fs, Try.prog.underlying 56 = some (.struct fs) := isSt_yes (by kernel_rfl)
theorem wO : TyO Try.prog (.sl (.int .u64)) 30 := tyB_ok (n := 5) (by kernel_rfl)
theorem byteO : TyO Try.prog (.int .u8) 5 := tyB_ok (n := 5) (by kernel_rfl)
theorem byteS : ∀ fs, Try.prog.underlying 5 ≠ some (.struct fs) := isSt_no (by kernel_rfl)

/-- an array of two slices -/
theorem arg_two {H : Type} {enc : TypeId × Value → H} {P : Program} {W : World} {sp : Nat → Bool} {d : Ly} {t e : TypeId} {v : Value} {dd : DataW H} {p : List MemPlace} (hu : P.underlying t = some (.array 2 e)) (hce : P.cellsOf e = 1) (hct : P.cellsOf t = 2) (h : TyO P (.sl d) e)
    (hv : Value.okWide P W .any 0 t v) (ht : DataW.Trod enc P W 0 sp true t v dd p) :
    ∃ x y : (Ly.sl d).ty, (Ly.sl d).inr x ∧ (Ly.sl d).inr y ∧ VR noMap W (.agg (((Ly.sl d).trees x ++ (Ly.sl d).trees y).map Cell.t)) v := by
  unfold Value.okWide at hv
  rw [hu] at hv
  obtain ⟨cs, rfl, hsz, _⟩ := hv
  obtain ⟨n, hn⟩ := ht
  obtain ⟨xs, m, rfl, _, hl, hxl, hel⟩ := DataW.trod_array hu hn
  have get : ∀ i, i < 2 → ∃ x : (Ly.sl d).ty, (Ly.sl d).inr x ∧ ∃ u, cs[i]? = some u ∧ ∀ tr, (Ly.sl d).trees x = [tr] → TR noMap.un W tr u := fun i hi => by
    have h1 := hel i hi
    have h2 : xs[i]? = some (xs[i]'(by omega)) := List.getElem?_eq_getElem (by omega)
    rw [h2] at h1
    obtain ⟨x, h3, h4⟩ := TyO.down (U := noMap.un) noMap_un h h1
    refine ⟨x, h4, ?_⟩
    obtain ⟨u, h5, h6⟩ := h3.2 0 (by rw [(Ly.sl d).trees_length]; exact Nat.one_pos)
    rw [hce] at h5
    refine ⟨u, ?_, fun tr htr => ?_⟩
    · simp [Value.cells] at h5
      first | exact h5 | simpa using h5
    · have : ((Ly.sl d).trees x)[0]'(by rw [(Ly.sl d).trees_length]; exact Nat.one_pos) = tr := by simp [htr]
      rw [this] at h6
      exact h6
  obtain ⟨x, hx, u, hu0, tx⟩ := get 0 (by omega)
  obtain ⟨y, hy, u', hu1, ty'⟩ := get 1 (by omega)
  refine ⟨x, y, hx, hy, cs, rfl, by simp [hsz, hct, (Ly.sl d).trees_length, Ly.size], fun i hi => ?_⟩
  match i, hi with
  | 0, _ => exact ⟨u, by simpa using hu0, tx _ rfl⟩
  | 1, _ => exact ⟨u', by simpa using hu1, ty' _ rfl⟩
  | i + 2, hi => exact absurd hi (by simp [(Ly.sl d).trees_length, Ly.size])

theorem in_u64 {l : List Int} (h : ∀ x ∈ l, (Lit.int .u64 x).wf = true) (i : Nat) : Pl.W (Pl.at0 l i) := by
  unfold Pl.at0
  by_cases g : i < l.length
  · rw [List.getElem?_eq_getElem g]; exact wf_u64 (h _ (List.getElem_mem g))
  · rw [List.getElem?_eq_none (by omega)]; exact ⟨Int.le_refl _, by decide⟩

set_option maxRecDepth 100000 in
theorem compactorsSigns_lifted (os : Os) (started : os.Started) (H : Type) (enc : TypeId × Value → H) :
    ReturnsInHanded {} Try.checked os 7 .any (Rows.compactorsSignsSpec.pre6 enc Try.prog Try.f7 Rows.compactorsSignsRow.domain false) (Rows.compactorsSignsSpec.post enc Try.prog Try.f7 false true false false) := by
  refine returnsInHanded_of_change (C := Try.checked) Try.own started (by kernel_rfl) Try.func7
    (ChangeSpec.witness6 (enc := enc) (C := Try.checked) false ⟨#[], #[.agg #[.int .u8 0, .int .u64 0], .agg #[.slice none 0 0, .slice none 0 0], .int .u8 0], []⟩ 8 (by kernel_rfl) (by kernel_rfl) (by kernel_rfl) (by kernel_rfl)) ?_
  intro W base args ds gs before hval0 hW hcnd _
  have hval : ∀ (j : Nat) t v, Try.f7.params[j]? = some t → args[j]? = some v → Value.okWide Try.prog W .any base t v := hval0
  have hW' := hW
  obtain ⟨p, q, hA0, hV, rfl, hfz, hnd⟩ := hW
  have hA : DataW.TrodAll enc Try.prog W 0 (fun _ => true) true Try.f7.params.toList args.toList ds p := hA0
  rw [Try.params7] at hA hval
  obtain ⟨v0, v1, v2, d0, d1, d2, p0, p1, p2, rfl, rfl, rfl, h0, h1, h2⟩ := trodAll_three hA
  obtain ⟨x, hx, g0⟩ := arg_agg lS lO (hval 0 56 v0 rfl rfl) h0
  obtain ⟨a, b, ha, hb, g1⟩ := arg_two (by kernel_rfl) (by kernel_rfl) (by kernel_rfl) wO (hval 1 57 v1 rfl rfl) h1
  obtain ⟨c, hc, tr', h5, g2⟩ := arg_one byteS byteO (hval 2 5 v2 rfl rfl) h2
  have e5 : tr' = T.int .u8 c := (List.cons.inj h5).1.symm
  subst e5
  have hargs := argsR3 g0 g1 g2
  have hr : FnOk Try.prog 7 ((F7.g.A ⟨x.1, x.2, a, b, c⟩).map SV.den) (SH.den (F7.g.H ⟨x.1, x.2, a, b, c⟩)) fun v τ => v = (F7.f.V true).den ∧ τ = SH.den (F7.f.H true) := by
    rcases Pl.signs (wf_u8 hx.1) (wf_u64 hx.2) (in_u64 ha.2) (in_u64 hb.2) (wf_u8 hc) with h | h
    · exact F7.known.ok ⟨x.1, x.2, a, b, c⟩ true h
    · exact F7z.known.ok ⟨x.1, x.2, a, b, c⟩ true h
  refine (fn_calls hr hargs).mono fun e W' ⟨he, _, hsame, hos, hout⟩ => ?_
  subst he
  refine ⟨_, rfl, post_true Try.laidOut ?_ rfl rfl Try.underlying4 ?_ hW' hsame hos hout⟩
  · intro t ht
    rw [Try.params7] at ht
    simp at ht
    rcases ht with rfl | rfl | rfl <;> exact ⟨by kernel_rfl, of_decide_eq_true (by kernel_rfl)⟩
  · rfl

theorem compactorsSigns_holds : Rows.CompactorsSignsSaid :=
  OpenClaim.holds_of_wide 7 Try.f7 rfl rfl rfl rfl rfl rfl rfl ⟨rfl, rfl, rfl, rfl, rfl⟩ rfl rfl rfl rfl rfl (by kernel_rfl) Try.func7 (by kernel_rfl)
    (of_decide_eq_true (by kernel_rfl)) (by unfold Func.isWrapper; first | (rw [if_pos (by decide +kernel)]; kernel_rfl) | (rw [if_neg (by decide +kernel)]; exact ⟨rfl, rfl⟩))
    (fun os started H enc _ => compactorsSigns_lifted os started H enc)
end Go.Proofs.Ytfcbahfdgopgfaa
