/-
  CompactorsLocates answers true for every input, leaves the input as it is, and never panics; there is no condition.
-/
import Derived.Test.YtfcbahfdgopgfaaKR6QMq
import Derived.Test.YtfcbahfdgopgfaaKR6QKR0
/-
  The row CompactorsLocates.
-/
set_option linter.unusedSimpArgs false
set_option linter.unusedVariables false
namespace Go.Proofs.Ytfcbahfdgopgfaa
open Go.ChangeShapes Go.WideShapes Go.ChangeAt Go.RowKit
open Go.Abs
theorem Try.params6 : Try.f6.params = #[24, 51, 5] := by kernel_rfl
theorem byteO : TyO Try.prog (.int .u8) 5 := tyB_ok (n := 5) (by kernel_rfl)
theorem byteS : ∀ fs, Try.prog.underlying 5 ≠ some (.struct fs) := isSt_no (by kernel_rfl)
theorem wordO : TyO Try.prog (.int .u32) 51 := tyB_ok (n := 5) (by kernel_rfl)
theorem wordS : ∀ fs, Try.prog.underlying 51 ≠ some (.struct fs) := isSt_no (by kernel_rfl)

set_option maxRecDepth 100000 in
theorem compactorsLocates_lifted (os : Os) (started : os.Started) (H : Type) (enc : TypeId × Value → H) :
    ReturnsInHanded {} Try.checked os 6 .any (Rows.compactorsLocatesSpec.pre6 enc Try.prog Try.f6 Rows.compactorsLocatesRow.domain false) (Rows.compactorsLocatesSpec.post enc Try.prog Try.f6 false true false false) := by
  refine returnsInHanded_of_change (C := Try.checked) Try.own started (by kernel_rfl) Try.func6
    (ChangeSpec.witness6 (enc := enc) (C := Try.checked) false ⟨#[], #[.agg #[.int .u8 0, .slice none 0 0], .int .u32 0, .int .u8 0], []⟩ 8 (by kernel_rfl) (by kernel_rfl) (by kernel_rfl) (by kernel_rfl)) ?_
  intro W base args ds gs before hval0 hW hcnd _
  have hval : ∀ (j : Nat) t v, Try.f6.params[j]? = some t → args[j]? = some v → Value.okWide Try.prog W .any base t v := hval0
  have hW' := hW
  obtain ⟨p, q, hA0, hV, rfl, hfz, hnd⟩ := hW
  have hA : DataW.TrodAll enc Try.prog W 0 (fun _ => true) true Try.f6.params.toList args.toList ds p := hA0
  rw [Try.params6] at hA hval
  obtain ⟨v0, v1, v2, d0, d1, d2, p0, p1, p2, rfl, rfl, rfl, h0, h1, h2⟩ := trodAll_three hA
  obtain ⟨x, hx, g0⟩ := arg_agg kS kO (hval 0 24 v0 rfl rfl) h0
  obtain ⟨s, hs, tr, h4, g1⟩ := arg_one wordS wordO (hval 1 51 v1 rfl rfl) h1
  obtain ⟨c, hc, tr', h5, g2⟩ := arg_one byteS byteO (hval 2 5 v2 rfl rfl) h2
  have e4 : tr = T.int .u32 s := (List.cons.inj h4).1.symm
  have e5 : tr' = T.int .u8 c := (List.cons.inj h5).1.symm
  subst e4
  subst e5
  have hargs := argsR3 g0 g1 g2
  have hr := F6.known.ok ⟨x.1, x.2, s, c⟩ true (Pl.locates (wf_u8 hx.1) (in_u32 hx.2.2) (wf_u32 hs) (wf_u8 hc))
  refine (fn_calls hr hargs).mono fun e W' ⟨he, _, hsame, hos, hout⟩ => ?_
  subst he
  refine ⟨_, rfl, post_true Try.laidOut ?_ rfl rfl Try.underlying4 ?_ hW' hsame hos hout⟩
  · intro t ht
    rw [Try.params6] at ht
    simp at ht
    rcases ht with rfl | rfl | rfl <;> exact ⟨by kernel_rfl, of_decide_eq_true (by kernel_rfl)⟩
  · rfl

theorem compactorsLocates_holds : Rows.CompactorsLocatesSaid :=
  OpenClaim.holds_of_wide 6 Try.f6 rfl rfl rfl rfl rfl rfl rfl ⟨rfl, rfl, rfl, rfl, rfl⟩ rfl rfl rfl rfl rfl (by kernel_rfl) Try.func6 (by kernel_rfl)
    (of_decide_eq_true (by kernel_rfl)) (by unfold Func.isWrapper; first | (rw [if_pos (by decide +kernel)]; kernel_rfl) | (rw [if_neg (by decide +kernel)]; exact ⟨rfl, rfl⟩))
    (fun os started H enc _ => compactorsLocates_lifted os started H enc)
end Go.Proofs.Ytfcbahfdgopgfaa
