/-
  CubesMerges answers true for every input, leaves the input as it is, and never panics; there is no condition.
-/
import Derived.Test.YtnmlmdlhhphcoaaER5QEz
import Derived.Test.YtnmlmdlhhphcoaaER5QER0
set_option linter.all false
namespace Go.Proofs.Ytnmlmdlhhphcoaa
open Go.ChangeShapes Go.WideShapes Go.ChangeAt Go.RowKit
open Go.Abs
theorem Try.params5 : Try.f5.params = #[24,24,24] := by kernel_rfl
set_option maxRecDepth 100000 in
theorem cubesMerges_lifted (os : Os) (started : os.Started) (H : Type) (enc : TypeId × Value → H) :
   ReturnsInHanded {} Try.checked os 5 .any (Rows.cubesMergesSpec.pre6 enc Try.prog Try.f5 Rows.cubesMergesRow.domain false) (Rows.cubesMergesSpec.post enc Try.prog Try.f5 false true false false) := by
 refine returnsInHanded_of_change (C := Try.checked) Try.own started (by kernel_rfl) Try.func5
   (ChangeSpec.witness6 (enc := enc) (C := Try.checked) false ⟨#[],#[.agg #[.slice none 0 0,.slice none 0 0],.agg #[.slice none 0 0,.slice none 0 0],.agg #[.slice none 0 0,.slice none 0 0]],[]⟩ 8 (by kernel_rfl) (by kernel_rfl) (by kernel_rfl) (by kernel_rfl)) ?_
 intro W base args ds gs before hval0 hW hcnd _
 have hval : ∀ (j : Nat) t v,Try.f5.params[j]? = some t → args[j]? = some v → Value.okWide Try.prog W .any base t v := hval0
 have hW' := hW
 obtain ⟨p,q,hA0,hV,rfl,hfz,hnd⟩ := hW
 have hA : DataW.TrodAll enc Try.prog W 0 (fun _ => true) true Try.f5.params.toList args.toList ds p := hA0
 rw [Try.params5] at hA hval
 obtain ⟨v0,v1,v2,d0,d1,d2,p0,p1,p2,rfl,rfl,rfl,h0,h1,h2⟩ := trodAll_three hA
 obtain ⟨x0,hx0,g0⟩ := arg_agg pS pO (hval 0 24 v0 rfl rfl) h0
 obtain ⟨x1,hx1,g1⟩ := arg_agg pS pO (hval 1 24 v1 rfl rfl) h1
 obtain ⟨x2,hx2,g2⟩ := arg_agg pS pO (hval 2 24 v2 rfl rfl) h2
 have hargs := argsR3 g0 g1 g2
 have hr := M5.known.ok ⟨x0.1,x0.2,x1.1,x1.2,x2.1,x2.2⟩ true
   (Cu.run5 (fun b hb => (wf_u8 (hx0.1.2 b hb)).1) (fun b hb => (wf_u8 (hx0.2.2 b hb)).1) (fun b hb => (wf_u8 (hx1.1.2 b hb)).1) (fun b hb => (wf_u8 (hx1.2.2 b hb)).1)
     (fun b hb => (wf_u8 (hx2.1.2 b hb)).1) (fun b hb => (wf_u8 (hx2.2.2 b hb)).1))
 refine (fn_calls hr hargs gl_none).mono fun e W' ⟨he,_,hsame,hos,hout⟩ => ?_
 subst he
 refine ⟨_,rfl,post_true Try.laidOut ?_ rfl rfl Try.underlying4 ?_ hW' hsame hos hout⟩
 · intro t ht
   rw [Try.params5] at ht
   simp at ht
   rcases ht with rfl <;> exact ⟨by kernel_rfl,of_decide_eq_true (by kernel_rfl)⟩
 · rfl
theorem cubesMerges_holds : Rows.CubesMergesSaid :=
 OpenClaim.holds_of_wide 5 Try.f5 rfl rfl rfl rfl rfl rfl rfl ⟨rfl,rfl,rfl,rfl,rfl⟩ rfl rfl rfl rfl rfl (by kernel_rfl) Try.func5 (by kernel_rfl)
   (of_decide_eq_true (by kernel_rfl)) (by unfold Func.isWrapper; first | (rw [if_pos (by decide +kernel)]; kernel_rfl) | (rw [if_neg (by decide +kernel)]; exact ⟨rfl,rfl⟩))
   (fun os started H enc _ => cubesMerges_lifted os started H enc)
end Go.Proofs.Ytnmlmdlhhphcoaa
