/-
  Gf2sErrors answers true for every input, leaves the input as it is, and never panics. There is no condition.
-/
import Derived.Test.YtddaobhpffpmoaaGR9QGQB
import Derived.Test.YtddaobhpffpmoaaGR9QGR1
set_option linter.all false
namespace Go.Proofs.Ytddaobhpffpmoaa
open Go.ChangeShapes Go.WideShapes Go.ChangeAt Go.RowKit
open Go.Abs
theorem Try.params9 : Try.f9.params = #[74,74,77] := by kernel_rfl
set_option maxRecDepth 100000 in
theorem gf2sErrors_lifted (os : Os) (started : os.Started) (H : Type) (enc : TypeId × Value → H) :
  ReturnsInHanded {} Try.checked os 9 .any (Rows.gf2sErrorsSpec.pre6 enc Try.prog Try.f9 Rows.gf2sErrorsRow.domain false) (Rows.gf2sErrorsSpec.post enc Try.prog Try.f9 false true false false) := by
 refine handed_sized (C := Try.checked) Try.own started (by kernel_rfl) Try.func9
  (ChangeSpec.witness6 (enc := enc) (C := Try.checked) false ⟨#[],#[.agg #[.int .i64 0,.slice none 0 0],.agg #[.int .i64 0,.slice none 0 0],.agg #[.int .i64 0,.slice none 0 0]],[]⟩ 8 (by kernel_rfl) (by kernel_rfl) (by kernel_rfl) (by kernel_rfl)) ?_
 intro W base args ds gs before hval0 hW hwt
 have hval : ∀ (j : Nat) t v,Try.f9.params[j]? = some t → args[j]? = some v → Value.okWide Try.prog W .any base t v := hval0
 have hW' := hW
 obtain ⟨p,q,hA0,hV,rfl,hfz,hnd⟩ := hW
 have hA : DataW.TrodAll enc Try.prog W 0 (fun _ => true) true Try.f9.params.toList args.toList ds p := hA0
 rw [Try.params9] at hA hval hwt
 obtain ⟨v0,v1,v2,d0,d1,d2,p0,p1,p2,rfl,rfl,rfl,h0,h1,h2⟩ := trodAll_three hA
 obtain ⟨x0,hx0,g0⟩ := arg_agg vS vO (hval 0 74 v0 rfl rfl) h0
 obtain ⟨x1,hx1,g1⟩ := arg_agg vS vO (hval 1 74 v1 rfl rfl) h1
 obtain ⟨x2,hx2,g2⟩ := arg_agg rS rO (hval 2 77 v2 rfl rfl) h2
 have hargs := argsR3 g0 g1 g2
 have hr := M9.known.ok ⟨x0.1,x0.2,x1.1,x1.2,x2.1,x2.2⟩ true (Gf.run9 _ _ _ _ _ _ (fun b hb => wf_u64 (hx0.2.2 b hb)) (fun b hb => wf_u64 (hx1.2.2 b hb)) (fun r hr b hb => wf_u64 ((hx2.2.2 r hr).2.2 b hb)))
 refine (fn_calls hr hargs gl_none).mono fun e W' ⟨he,_,hsame,hos,hout⟩ => ?_
 subst he
 refine ⟨_,rfl,post_true Try.laidOut ?_ rfl rfl Try.underlying4 ?_ hW' hsame hos hout⟩
 ·intro t ht
  rw [Try.params9] at ht
  simp at ht
  rcases ht with rfl | rfl <;> exact ⟨by kernel_rfl,of_decide_eq_true (by kernel_rfl)⟩
 ·rfl
theorem gf2sErrors_holds : Rows.Gf2sErrorsSaid :=
 OpenClaim.holds_of_wide 9 Try.f9 rfl rfl rfl rfl rfl rfl rfl ⟨rfl,rfl,rfl,rfl,rfl⟩ rfl rfl rfl rfl rfl (by kernel_rfl) Try.func9 (by kernel_rfl)
  (of_decide_eq_true (by kernel_rfl)) (by unfold Func.isWrapper; first | (rw [if_pos (by decide +kernel)]; kernel_rfl) | (rw [if_neg (by decide +kernel)]; exact ⟨rfl,rfl⟩))
  (fun os started H enc _ => gf2sErrors_lifted os started H enc)
end Go.Proofs.Ytddaobhpffpmoaa
