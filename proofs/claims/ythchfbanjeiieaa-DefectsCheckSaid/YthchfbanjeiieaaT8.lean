/-
  The row DefectsCheck.
-/
import Derived.Test.YthchfbanjeiieaaT7
import Derived.Test.YthchfbanjeiieaaAbsY
import Derived.ProofKit
import Derived.Lib.SmallJoins
set_option linter.unusedSimpArgs false
set_option linter.unusedVariables false
namespace Go.Proofs.Ythchfbanjeiieaa
open Go.ChangeShapes Go.WideShapes Go.ChangeAt Go.RowKit
open Go.Abs

theorem Try.own : ownKnob Try.prog.godebug = none := by kernel_rfl
theorem Try.laidOut : laidOutB Try.prog = true := by kernel_rfl

set_option maxRecDepth 100000 in
theorem defectsCheck_lifted (os : Os) (started : os.Started) (H : Type) (enc : TypeId × Value → H) :
    ReturnsInHanded {} Try.checked os 4 .any (Rows.defectsCheckSpec.pre6 enc Try.prog Try.f4 Rows.defectsCheckRow.domain false) (Rows.defectsCheckSpec.post enc Try.prog Try.f4 false true false false) := by
  refine returnsInHanded_of_change (C := Try.checked) Try.own started (by kernel_rfl) Try.func4
    (ChangeSpec.witness6 (enc := enc) (C := Try.checked) false ⟨#[], #[.agg #[.int .u8 0, .int .i64 0, .int .i64 0], .int .i64 0], []⟩ 8 (by kernel_rfl) (by kernel_rfl) (by kernel_rfl) (by kernel_rfl)) ?_
  intro W base args ds gs before hval0 hW hcnd _
  have hval : ∀ (j : Nat) t v, Try.f4.params[j]? = some t → args[j]? = some v → Value.okWide Try.prog W .any base t v := hval0
  have hW' := hW
  obtain ⟨p, q, hA0, hV, rfl, hfz, hnd⟩ := hW
  have hA : DataW.TrodAll enc Try.prog W 0 (fun _ => true) true Try.f4.params.toList args.toList ds p := hA0
  rw [Try.params4] at hA hval
  obtain ⟨v0, v1, d0, d1, p0, p1, rfl, rfl, rfl, h0, h1⟩ := trodAll_two hA
  obtain ⟨c0, c1, c2, y0, y1, y2, k, rfl, _, _, t0, t1, t2⟩ := Go.Joins.open_agg3 Try.underlying33 (by kernel_rfl) (by kernel_rfl) (hval 0 33 v0 rfl rfl) h0
  obtain ⟨c, e0, _, w0⟩ := DataW.trod_int Try.underlying31 t0
  obtain ⟨a, e1, _, w1⟩ := DataW.trod_int Try.underlying3 t1
  obtain ⟨b, e2, _, w2⟩ := DataW.trod_int Try.underlying3 t2
  injection e0 with e0
  injection e1 with e1
  injection e2 with e2
  subst e0; subst e1; subst e2
  obtain ⟨n, rfl, _, _, w3⟩ := open_int Try.underlying3 (hval 1 3 v1 rfl rfl) h1
  have hr : 0 ≤ c ∧ c ≤ 255 := by
    have := w0
    simp [Lit.wf, IntKind.has, IntKind.min, IntKind.max, IntKind.signed, IntKind.bits] at this
    omega
  have hwr : IntKind.i64.wrap c = c := by
    simp [IntKind.wrap, IntKind.signed, IntKind.bits]
    omega
  have hargs : argsR noMap W [.agg [.t (.int .u8 c), .t (.int .i64 a), .t (.int .i64 b)], aI .i64 n] #[.agg #[.int .u8 c, .int .i64 a, .int .i64 b], .int .i64 n] := by
    refine ⟨rfl, fun i hi => ?_⟩
    match i, hi with
    | 0, _ =>
      refine ⟨_, rfl, ⟨_, rfl, rfl, fun j hj => ?_⟩⟩
      match j, hj with
      | 0, _ => exact ⟨_, rfl, TR.int _ _⟩
      | 1, _ => exact ⟨_, rfl, TR.int _ _⟩
      | 2, _ => exact ⟨_, rfl, TR.int _ _⟩
    | 1, _ => exact ⟨_, rfl, TR.int _ _⟩
  refine (fn_calls (defectsCheck_ok c a b n hwr hr.1) hargs).mono fun e W' ⟨he, _, hsame, hos, hout⟩ => ?_
  subst he
  refine ⟨_, rfl, post_true Try.laidOut ?_ rfl rfl Try.underlying4 ?_ hW' hsame hos hout⟩
  · intro t ht
    rw [Try.params4] at ht
    simp at ht
    rcases ht with rfl | rfl <;> exact ⟨by kernel_rfl, of_decide_eq_true (by kernel_rfl)⟩
  · rfl

theorem defectsCheck_holds : Rows.DefectsCheckSaid :=
  OpenClaim.holds_of_wide 4 Try.f4 rfl rfl rfl rfl rfl rfl rfl ⟨rfl, rfl, rfl, rfl, rfl⟩ rfl rfl rfl rfl rfl (by kernel_rfl) Try.func4 (by kernel_rfl)
    (of_decide_eq_true (by kernel_rfl)) (by unfold Func.isWrapper; first | (rw [if_pos (by decide +kernel)]; kernel_rfl) | (rw [if_neg (by decide +kernel)]; exact ⟨rfl, rfl⟩))
    (fun os started H enc _ => defectsCheck_lifted os started H enc)
end Go.Proofs.Ythchfbanjeiieaa
