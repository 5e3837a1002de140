/-
  CompactorsKeeps answers true for every input, leaves the input as it is, and never panics; there is no condition.
-/
import Derived.Test.YtfcbahfdgopgfaaKR4QMq
import Derived.Test.YtfcbahfdgopgfaaKR4QKR0
/-
  The row CompactorsKeeps.
-/
set_option linter.unusedSimpArgs false
set_option linter.unusedVariables false
namespace Go.Proofs.Ytfcbahfdgopgfaa
open Go.ChangeShapes Go.WideShapes Go.ChangeAt Go.RowKit
open Go.Abs
theorem Try.params4 : Try.f4.params = #[24, 28, 5] := by kernel_rfl
theorem byteO : TyO Try.prog (.int .u8) 5 := tyB_ok (n := 5) (by kernel_rfl)
theorem byteS : ∀ fs, Try.prog.underlying 5 ≠ some (.struct fs) := isSt_no (by kernel_rfl)

set_option maxRecDepth 100000 in
theorem compactorsKeeps_lifted (os : Os) (started : os.Started) (H : Type) (enc : TypeId × Value → H) :
    ReturnsInHanded {} Try.checked os 4 .any (Rows.compactorsKeepsSpec.pre6 enc Try.prog Try.f4 Rows.compactorsKeepsRow.domain false) (Rows.compactorsKeepsSpec.post enc Try.prog Try.f4 false true false false) := by
  refine returnsInHanded_of_change (C := Try.checked) Try.own started (by kernel_rfl) Try.func4
    (ChangeSpec.witness6 (enc := enc) (C := Try.checked) false ⟨#[], #[.agg #[.int .u8 0, .slice none 0 0], .agg #[.slice none 0 0, .slice none 0 0, .int .u64 0], .int .u8 0], []⟩ 8 (by kernel_rfl) (by kernel_rfl) (by kernel_rfl) (by kernel_rfl)) ?_
  intro W base args ds gs before hval0 hW hcnd _
  have hval : ∀ (j : Nat) t v, Try.f4.params[j]? = some t → args[j]? = some v → Value.okWide Try.prog W .any base t v := hval0
  have hW' := hW
  obtain ⟨p, q, hA0, hV, rfl, hfz, hnd⟩ := hW
  have hA : DataW.TrodAll enc Try.prog W 0 (fun _ => true) true Try.f4.params.toList args.toList ds p := hA0
  rw [Try.params4] at hA hval
  obtain ⟨v0, v1, v2, d0, d1, d2, p0, p1, p2, rfl, rfl, rfl, h0, h1, h2⟩ := trodAll_three hA
  obtain ⟨x, hx, g0⟩ := arg_agg kS kO (hval 0 24 v0 rfl rfl) h0
  obtain ⟨y, hy, g1⟩ := arg_agg sS sO (hval 1 28 v1 rfl rfl) h1
  obtain ⟨c, hc, tr, h5, g2⟩ := arg_one byteS byteO (hval 2 5 v2 rfl rfl) h2
  have e5 : tr = T.int .u8 c := (List.cons.inj h5).1.symm
  subst e5
  have hargs := argsR3 g0 g1 g2
  have hr := F4.known.ok ⟨x.1, x.2, y.1, y.2.1, y.2.2, c⟩ true (Pl.keeps (wf_u8 hx.1) (in_u32 hx.2.2) (in_u8 hy.1.2) (in_u8 hy.2.1.2) (wf_u64 hy.2.2) (wf_u8 hc))
  refine (fn_calls hr hargs).mono fun e W' ⟨he, _, hsame, hos, hout⟩ => ?_
  subst he
  refine ⟨_, rfl, post_true Try.laidOut ?_ rfl rfl Try.underlying4 ?_ hW' hsame hos hout⟩
  · intro t ht
    rw [Try.params4] at ht
    simp at ht
    rcases ht with rfl | rfl | rfl <;> exact ⟨by kernel_rfl, of_decide_eq_true (by kernel_rfl)⟩
  · rfl

theorem compactorsKeeps_holds : Rows.CompactorsKeepsSaid :=
  OpenClaim.holds_of_wide 4 Try.f4 rfl rfl rfl rfl rfl rfl rfl ⟨rfl, rfl, rfl, rfl, rfl⟩ rfl rfl rfl rfl rfl (by kernel_rfl) Try.func4 (by kernel_rfl)
    (of_decide_eq_true (by kernel_rfl)) (by unfold Func.isWrapper; first | (rw [if_pos (by decide +kernel)]; kernel_rfl) | (rw [if_neg (by decide +kernel)]; exact ⟨rfl, rfl⟩))
    (fun os started H enc _ => compactorsKeeps_lifted os started H enc)
end Go.Proofs.Ytfcbahfdgopgfaa
