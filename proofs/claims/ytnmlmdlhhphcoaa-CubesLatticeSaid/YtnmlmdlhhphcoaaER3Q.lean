/-
  CubesLattice answers true for every input, leaves the input as it is, and never panics. There is no condition.
-/
import Derived.Test.YtnmlmdlhhphcoaaER3QEz
import Derived.Test.YtnmlmdlhhphcoaaER3QER0
set_option linter.all false
namespace Go.Proofs.Ytnmlmdlhhphcoaa
open Go.ChangeShapes Go.WideShapes Go.ChangeAt Go.RowKit
open Go.Abs
theorem Try.params3 : Try.f3.params = #[24,24] := by kernel_rfl
set_option maxRecDepth 100000 in
theorem cubesLattice_lifted (os : Os) (started : os.Started) (H : Type) (enc : TypeId × Value → H) :
   ReturnsInHanded {} Try.checked os 3 .any (Rows.cubesLatticeSpec.pre6 enc Try.prog Try.f3 Rows.cubesLatticeRow.domain false) (Rows.cubesLatticeSpec.post enc Try.prog Try.f3 false true false false) := by
 refine handed_sized (C := Try.checked) Try.own started (by kernel_rfl) Try.func3
   (ChangeSpec.witness6 (enc := enc) (C := Try.checked) false ⟨#[],#[.agg #[.slice none 0 0,.slice none 0 0],.agg #[.slice none 0 0,.slice none 0 0]],[]⟩ 8 (by kernel_rfl) (by kernel_rfl) (by kernel_rfl) (by kernel_rfl)) ?_
 intro W base args ds gs before hval0 hW hwt
 have hval : ∀ (j : Nat) t v,Try.f3.params[j]? = some t → args[j]? = some v → Value.okWide Try.prog W .any base t v := hval0
 have hW' := hW
 obtain ⟨p,q,hA0,hV,rfl,hfz,hnd⟩ := hW
 have hA : DataW.TrodAll enc Try.prog W 0 (fun _ => true) true Try.f3.params.toList args.toList ds p := hA0
 rw [Try.params3] at hA hval hwt
 obtain ⟨v0,v1,d0,d1,p0,p1,rfl,rfl,rfl,h0,h1⟩ := trodAll_two hA
 obtain ⟨x0,hx0,g0⟩ := arg_agg pS pO (hval 0 24 v0 rfl rfl) h0
 obtain ⟨x1,hx1,g1⟩ := arg_agg pS pO (hval 1 24 v1 rfl rfl) h1
 have hargs := argsR2 g0 g1
 have hr := M3.known.ok ⟨x0.1,x0.2,x1.1,x1.2⟩ true (Cu.run3 (fun b hb => (wf_u8 (hx0.1.2 b hb)).1) (fun b hb => (wf_u8 (hx0.2.2 b hb)).1) (fun b hb => (wf_u8 (hx1.1.2 b hb)).1) (fun b hb => (wf_u8 (hx1.2.2 b hb)).1))
 refine (fn_calls hr hargs gl_none).mono fun e W' ⟨he,_,hsame,hos,hout⟩ => ?_
 subst he
 refine ⟨_,rfl,post_true Try.laidOut ?_ rfl rfl Try.underlying4 ?_ hW' hsame hos hout⟩
 · intro t ht
   rw [Try.params3] at ht
   simp at ht
   rcases ht with rfl <;> exact ⟨by kernel_rfl,of_decide_eq_true (by kernel_rfl)⟩
 · rfl
theorem cubesLattice_holds : Rows.CubesLatticeSaid :=
 OpenClaim.holds_of_wide 3 Try.f3 rfl rfl rfl rfl rfl rfl rfl ⟨rfl,rfl,rfl,rfl,rfl⟩ rfl rfl rfl rfl rfl (by kernel_rfl) Try.func3 (by kernel_rfl)
   (of_decide_eq_true (by kernel_rfl)) (by unfold Func.isWrapper; first | (rw [if_pos (by decide +kernel)]; kernel_rfl) | (rw [if_neg (by decide +kernel)]; exact ⟨rfl,rfl⟩))
   (fun os started H enc _ => cubesLattice_lifted os started H enc)
end Go.Proofs.Ytnmlmdlhhphcoaa
