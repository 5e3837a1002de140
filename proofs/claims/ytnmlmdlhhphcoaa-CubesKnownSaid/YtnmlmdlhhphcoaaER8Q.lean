/-
  CubesKnown answers true for every input, leaves the input as it is, and never panics. There is no condition.
-/
import Derived.Test.YtnmlmdlhhphcoaaER8QEK9
import Derived.Test.YtnmlmdlhhphcoaaER8QSyL
import Derived.Test.YtnmlmdlhhphcoaaER8QAbsY
set_option linter.all false
set_option maxRecDepth 100000
namespace Go.Proofs.Ytnmlmdlhhphcoaa
open Go.ChangeShapes Go.WideShapes Go.ChangeAt Go.RowKit
open Go.Abs
theorem Try.own:ownKnob Try.prog.godebug=none:=by kernel_rfl
theorem Try.laidOut:laidOutB Try.prog=true:=by kernel_rfl
theorem gl_none{W:World}:GlOk JD W:=λ_ _ _ h=>by cases h
theorem Try.params8:Try.f8.params= #[]:=by kernel_rfl
theorem VC(os:Os)(started:os.Started)(H:Type)(enc:TypeId×Value->H):
  ReturnsInHanded {} Try.checked os 8 .any (Rows.cubesKnownSpec.pre6 enc Try.prog Try.f8 Rows.cubesKnownRow.domain false) (Rows.cubesKnownSpec.post enc Try.prog Try.f8 false true false false):=by
 refine handed_sized (C:=Try.checked) Try.own started (by kernel_rfl) Try.func8
  (ChangeSpec.witness6 (enc:=enc) (C:=Try.checked) false ⟨#[],#[],[]⟩ 8 (by kernel_rfl) (by kernel_rfl) (by kernel_rfl) (by kernel_rfl)) ?_
 intro W base args ds gs before hval0 hW hwt;have hval:∀(j:Nat) t v,Try.f8.params[j]? =some t->args[j]? =some v->Value.okWide Try.prog W .any base t v:=hval0;have hW':=hW;obtain⟨p,q,hA0,hV,rfl,hfz,hnd⟩:=hW;have hA:DataW.TrodAll enc Try.prog W 0 (λ_=>true) true Try.f8.params.toList args.toList ds p:=hA0;rw[Try.params8]at hA hval hwt;obtain⟨rfl,rfl,rfl⟩:=trodAll_none hA;have hargs:ZN JD W [] #[]:=⟨rfl,λi hi=>absurd hi (Nat.not_lt_zero i)⟩;have hr:=run8;refine(fn_calls hr hargs gl_none).mono λe W' ⟨he,_,hsame,hos,hout⟩=> ?_;subst he;refine⟨_,rfl,post_true Try.laidOut ?_ rfl rfl Try.underlying4 ?_ hW' hsame hos hout⟩
 ·intro t ht;rw[Try.params8]at ht;simp at ht
 ·rfl
theorem cubesKnown_holds:Rows.CubesKnownSaid:=
 OpenClaim.holds_of_wide 8 Try.f8 rfl rfl rfl rfl rfl rfl rfl ⟨rfl,rfl,rfl,rfl,rfl⟩ rfl rfl rfl rfl rfl (by kernel_rfl) Try.func8 (by kernel_rfl)
  (of_decide_eq_true (by kernel_rfl)) (by unfold Func.isWrapper;first|(rw[if_pos (by decide+kernel)];kernel_rfl)|(rw[if_neg (by decide+kernel)];exact⟨rfl,rfl⟩))
  (λos started H enc _=>VC os started H enc)
end Go.Proofs.Ytnmlmdlhhphcoaa
