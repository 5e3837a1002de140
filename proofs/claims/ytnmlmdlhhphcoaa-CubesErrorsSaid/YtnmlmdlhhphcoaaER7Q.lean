/-
  CubesErrors answers true for every input, leaves the input as it is, and never panics. There is no condition.
-/
import Derived.Test.YtnmlmdlhhphcoaaER7QEz
import Derived.Test.YtnmlmdlhhphcoaaER7QER0
set_option linter.all false
namespace Go.Proofs.Ytnmlmdlhhphcoaa
open Go.ChangeShapes Go.WideShapes Go.ChangeAt Go.RowKit
open Go.Abs
theorem Try.params7 : Try.f7.params = #[56,5,46] := by kernel_rfl
set_option maxRecDepth 100000 in
theorem cubesErrors_lifted (os : Os) (started : os.Started) (H : Type) (enc : TypeId × Value → H) :
   ReturnsInHanded {} Try.checked os 7 .any (Rows.cubesErrorsSpec.pre6 enc Try.prog Try.f7 Rows.cubesErrorsRow.domain false) (Rows.cubesErrorsSpec.post enc Try.prog Try.f7 false true false false) := by
 refine handed_sized (C := Try.checked) Try.own started (by kernel_rfl) Try.func7
   (ChangeSpec.witness6 (enc := enc) (C := Try.checked) false ⟨#[],#[.agg #[.slice none 0 0,.slice none 0 0,.slice none 0 0,.slice none 0 0],.int .u8 0,.slice none 0 0],[]⟩ 8 (by kernel_rfl) (by kernel_rfl) (by kernel_rfl) (by kernel_rfl)) ?_
 intro W base args ds gs before hval0 hW hwt
 have hval : ∀ (j : Nat) t v,Try.f7.params[j]? = some t → args[j]? = some v → Value.okWide Try.prog W .any base t v := hval0
 have hW' := hW
 obtain ⟨p,q,hA0,hV,rfl,hfz,hnd⟩ := hW
 have hA : DataW.TrodAll enc Try.prog W 0 (fun _ => true) true Try.f7.params.toList args.toList ds p := hA0
 rw [Try.params7] at hA hval hwt
 obtain ⟨v0,v1,v2,d0,d1,d2,p0,p1,p2,rfl,rfl,rfl,h0,h1,h2⟩ := trodAll_three hA
 obtain ⟨x0,hx0,hu0,g0⟩ := arg_aggW rawS rawO (hval 0 56 v0 rfl rfl) h0
 have hw0 := hu0 (weigh hwt 0 rfl rfl)
 obtain ⟨x1,hx1,tr1,e1,g1⟩ := arg_one byteS byteO (hval 1 5 v1 rfl rfl) h1
 have f1 : tr1 = T.int .u8 x1 := (List.cons.inj e1).1.symm
 subst f1
 obtain ⟨x2,hx2,tr2,e2,g2⟩ := arg_one inlS inlO (hval 2 46 v2 rfl rfl) h2
 have f2 : tr2 = T.imm (x2.flatMap (Ly.int .i64).trees) x2.length none := (List.cons.inj e2).1.symm
 subst f2
 have hargs := argsR3 g0 g1 g2
 have hr := M7.known.ok ⟨x0.1.1,x0.1.2,x0.2.1,x0.2.2,x1,x2⟩ true (Cu.run7 hw0.1.1.1 hw0.1.2.1 hw0.2.1.1 hw0.2.2.1 (fun b hb => (wf_u8 (hx0.1.1.2 b hb)).1) (fun b hb => (wf_u8 (hx0.1.2.2 b hb)).1) (wf_u8 hx1).1)
 refine (fn_calls hr hargs gl_none).mono fun e W' ⟨he,_,hsame,hos,hout⟩ => ?_
 subst he
 refine ⟨_,rfl,post_true Try.laidOut ?_ rfl rfl Try.underlying4 ?_ hW' hsame hos hout⟩
 · intro t ht
   rw [Try.params7] at ht
   simp at ht
   rcases ht with rfl | rfl | rfl <;> exact ⟨by kernel_rfl,of_decide_eq_true (by kernel_rfl)⟩
 · rfl
theorem cubesErrors_holds : Rows.CubesErrorsSaid :=
 OpenClaim.holds_of_wide 7 Try.f7 rfl rfl rfl rfl rfl rfl rfl ⟨rfl,rfl,rfl,rfl,rfl⟩ rfl rfl rfl rfl rfl (by kernel_rfl) Try.func7 (by kernel_rfl)
   (of_decide_eq_true (by kernel_rfl)) (by unfold Func.isWrapper; first | (rw [if_pos (by decide +kernel)]; kernel_rfl) | (rw [if_neg (by decide +kernel)]; exact ⟨rfl,rfl⟩))
   (fun os started H enc _ => cubesErrors_lifted os started H enc)
end Go.Proofs.Ytnmlmdlhhphcoaa
