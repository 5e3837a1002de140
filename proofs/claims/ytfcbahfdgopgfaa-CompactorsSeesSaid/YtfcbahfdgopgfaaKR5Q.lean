/-
  CompactorsSees answers true for every input, leaves the input as it is, and never panics; there is no condition.
-/
import Derived.Test.YtfcbahfdgopgfaaKR5QMq
import Derived.Test.YtfcbahfdgopgfaaKR5QKR0
/-
  The row CompactorsSees.
-/
set_option linter.unusedSimpArgs false
set_option linter.unusedVariables false
namespace Go.Proofs.Ytfcbahfdgopgfaa
open Go.ChangeShapes Go.WideShapes Go.ChangeAt Go.RowKit
open Go.Abs
theorem Try.params5 : Try.f5.params = #[24, 28] := by kernel_rfl

set_option maxRecDepth 100000 in
theorem compactorsSees_lifted (os : Os) (started : os.Started) (H : Type) (enc : TypeId × Value → H) :
    ReturnsInHanded {} Try.checked os 5 .any (Rows.compactorsSeesSpec.pre6 enc Try.prog Try.f5 Rows.compactorsSeesRow.domain false) (Rows.compactorsSeesSpec.post enc Try.prog Try.f5 false true false false) := by
  refine returnsInHanded_of_change (C := Try.checked) Try.own started (by kernel_rfl) Try.func5
    (ChangeSpec.witness6 (enc := enc) (C := Try.checked) false ⟨#[], #[.agg #[.int .u8 0, .slice none 0 0], .agg #[.slice none 0 0, .slice none 0 0, .int .u64 0]], []⟩ 8 (by kernel_rfl) (by kernel_rfl) (by kernel_rfl) (by kernel_rfl)) ?_
  intro W base args ds gs before hval0 hW hcnd _
  have hval : ∀ (j : Nat) t v, Try.f5.params[j]? = some t → args[j]? = some v → Value.okWide Try.prog W .any base t v := hval0
  have hW' := hW
  obtain ⟨p, q, hA0, hV, rfl, hfz, hnd⟩ := hW
  have hA : DataW.TrodAll enc Try.prog W 0 (fun _ => true) true Try.f5.params.toList args.toList ds p := hA0
  rw [Try.params5] at hA hval
  obtain ⟨x, y, ⟨d0, d1, rfl⟩, hx, hy, hargs⟩ := comp_slices hA hval
  have hr := F5.known.ok ⟨x.1, x.2, y.1, y.2.1, y.2.2⟩ true (Pl.sees (wf_u8 hx.1) (in_u32 hx.2.2) (in_u8 hy.1.2))
  refine (fn_calls hr hargs).mono fun e W' ⟨he, _, hsame, hos, hout⟩ => ?_
  subst he
  refine ⟨_, rfl, post_true Try.laidOut ?_ rfl rfl Try.underlying4 ?_ hW' hsame hos hout⟩
  · intro t ht
    rw [Try.params5] at ht
    simp at ht
    rcases ht with rfl | rfl <;> exact ⟨by kernel_rfl, of_decide_eq_true (by kernel_rfl)⟩
  · rfl

theorem compactorsSees_holds : Rows.CompactorsSeesSaid :=
  OpenClaim.holds_of_wide 5 Try.f5 rfl rfl rfl rfl rfl rfl rfl ⟨rfl, rfl, rfl, rfl, rfl⟩ rfl rfl rfl rfl rfl (by kernel_rfl) Try.func5 (by kernel_rfl)
    (of_decide_eq_true (by kernel_rfl)) (by unfold Func.isWrapper; first | (rw [if_pos (by decide +kernel)]; kernel_rfl) | (rw [if_neg (by decide +kernel)]; exact ⟨rfl, rfl⟩))
    (fun os started H enc _ => compactorsSees_lifted os started H enc)
end Go.Proofs.Ytfcbahfdgopgfaa
