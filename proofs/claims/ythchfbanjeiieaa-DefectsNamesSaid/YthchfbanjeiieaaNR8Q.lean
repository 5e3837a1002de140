/-
  DefectsNames answers true for every input, leaves the input as it is, and never panics. There is no condition.
-/
import Derived.Test.YthchfbanjeiieaaNR8QNW1
import Derived.Test.YthchfbanjeiieaaNR8QSyL
import Derived.Test.YthchfbanjeiieaaNR8QAbsY
set_option linter.all false
namespace Go.Proofs.Ythchfbanjeiieaa
open Go.ChangeShapes Go.WideShapes Go.ChangeAt Go.RowKit
open Go.Abs
theorem Try.own : ownKnob Try.prog.godebug = none := by kernel_rfl
theorem Try.laidOut : laidOutB Try.prog = true := by kernel_rfl
theorem Nm.bS : (∀ fs,Try.prog.underlying 5 ≠ some (.struct fs)) ∧ ∀ n e,Try.prog.underlying 5 ≠ some (.array n e) := isAg_no (by kernel_rfl)
theorem Nm.bO : TyO Try.prog (.int .u8) 5 := tyB_ok (n := 4) (by kernel_rfl)
theorem Try.params8 : Try.f8.params = #[5] := by kernel_rfl
set_option maxRecDepth 100000 in
theorem defectsNames_lifted (os : Os) (started : os.Started) (H : Type) (enc : TypeId × Value → H) :
  ReturnsInHanded {} Try.checked os 8 .any (Rows.defectsNamesSpec.pre6 enc Try.prog Try.f8 Rows.defectsNamesRow.domain false) (Rows.defectsNamesSpec.post enc Try.prog Try.f8 false true false false) := by
 refine handed_sized (C := Try.checked) Try.own started (by kernel_rfl) Try.func8
  (ChangeSpec.witness6 (enc := enc) (C := Try.checked) false ⟨#[],#[.int .u8 0],[]⟩ 8 (by kernel_rfl) (by kernel_rfl) (by kernel_rfl) (by kernel_rfl)) ?_
 intro W base args ds gs before hval0 hW hwt
 have hval : ∀ (j : Nat) t v,Try.f8.params[j]? = some t → args[j]? = some v → Value.okWide Try.prog W .any base t v := hval0
 have hW' := hW
 obtain ⟨p,q,hA0,hV,rfl,hfz,hnd⟩ := hW
 have hA : DataW.TrodAll enc Try.prog W 0 (fun _ => true) true Try.f8.params.toList args.toList ds p := hA0
 rw [Try.params8] at hA hval hwt
 obtain ⟨v0,d0,rfl,rfl,h0⟩ := trodAll_one hA
 obtain ⟨x0,hx0,tr0,e0,g0⟩ := arg_one Nm.bS Nm.bO (hval 0 5 v0 rfl rfl) h0
 have f0 : tr0 = T.int .u8 x0 := (List.cons.inj e0).1.symm
 subst f0
 have ev : v0 = .int .u8 x0 := by
  have g1 : TR (noMap).un W (T.int .u8 x0) v0 := g0
  cases g1; rfl
 subst ev
 refine (Nm.names x0 W (wf_u8 hx0).1 (by have := (wf_u8 hx0).2; omega)).mono fun e W' ⟨he,hb⟩ => ?_
 subst he
 refine ⟨_,rfl,post_true Try.laidOut ?_ rfl rfl Try.underlying4 ?_ hW' hb.block hb.os hb.out⟩
 ·intro t ht
  rw [Try.params8] at ht
  simp at ht
  rcases ht with rfl <;> exact ⟨by kernel_rfl,of_decide_eq_true (by kernel_rfl)⟩
 ·rfl
theorem defectsNames_holds : Rows.DefectsNamesSaid :=
 OpenClaim.holds_of_wide 8 Try.f8 rfl rfl rfl rfl rfl rfl rfl ⟨rfl,rfl,rfl,rfl,rfl⟩ rfl rfl rfl rfl rfl (by kernel_rfl) Try.func8 (by kernel_rfl)
  (of_decide_eq_true (by kernel_rfl)) (by unfold Func.isWrapper; first | (rw [if_pos (by decide +kernel)]; kernel_rfl) | (rw [if_neg (by decide +kernel)]; exact ⟨rfl,rfl⟩))
  (fun os started H enc _ => defectsNames_lifted os started H enc)
end Go.Proofs.Ythchfbanjeiieaa
