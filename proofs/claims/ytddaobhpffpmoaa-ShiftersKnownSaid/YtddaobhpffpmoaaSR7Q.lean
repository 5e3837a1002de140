/-
  ShiftersKnown answers true for every input, leaves the input as it is, and never panics. There is no condition.
-/
import Derived.Test.YtddaobhpffpmoaaSR7QSh
import Derived.Test.YtddaobhpffpmoaaSR7QSr
set_option linter.all false
set_option maxRecDepth 100000
namespace Go.Proofs.Ytddaobhpffpmoaa
open Go.ChangeShapes Go.WideShapes Go.ChangeAt Go.RowKit
open Go.Abs
theorem Try.params17:Try.f17.params= #[]:=by kernel_rfl
theorem shiftersKnown_lifted(os:Os)(started:os.Started)(H:Type)(enc:TypeId×Value->H):
  ReturnsInHanded {} Try.checked os 17 .any (Rows.shiftersKnownSpec.pre6 enc Try.prog Try.f17 Rows.shiftersKnownRow.domain false) (Rows.shiftersKnownSpec.post enc Try.prog Try.f17 false true false false):=by
 refine handed_sized (C:=Try.checked) Try.own started (by kernel_rfl) Try.func17
  (ChangeSpec.witness6 (enc:=enc) (C:=Try.checked) false ⟨#[],#[],[]⟩ 8 (by kernel_rfl) (by kernel_rfl) (by kernel_rfl) (by kernel_rfl)) ?_
 intro W base args ds gs before hval0 hW hwt;have hval:∀(j:Nat) t v,Try.f17.params[j]? =some t->args[j]? =some v->Value.okWide Try.prog W .any base t v:=hval0;have hW':=hW;obtain⟨p,q,hA0,hV,rfl,hfz,hnd⟩:=hW;have hA:DataW.TrodAll enc Try.prog W 0 (λ_=>true) true Try.f17.params.toList args.toList ds p:=hA0;rw[Try.params17]at hA hval hwt;obtain⟨rfl,rfl,rfl⟩:=trodAll_none hA;have hargs:Ji Qf W [] #[]:=⟨rfl,λi hi=>absurd hi (BA i)⟩;have hr:=run17;refine(fn_calls hr hargs gl_none).mono λe W' ⟨he,_,hsame,hos,hout⟩=> ?_;subst he;refine⟨_,rfl,post_true Try.laidOut ?_ rfl rfl Try.underlying4 ?_ hW' hsame hos hout⟩
 ·intro t ht;rw[Try.params17]at ht;simp at ht
 ·rfl
theorem shiftersKnown_holds:Rows.ShiftersKnownSaid:=
 OpenClaim.holds_of_wide 17 Try.f17 rfl rfl rfl rfl rfl rfl rfl ⟨rfl,rfl,rfl,rfl,rfl⟩ rfl rfl rfl rfl rfl (by kernel_rfl) Try.func17 (by kernel_rfl)
  (of_decide_eq_true (by kernel_rfl)) (by unfold Func.isWrapper;first|(rw[AB (by decide+kernel)];kernel_rfl)|(rw[AE (by decide+kernel)];exact⟨rfl,rfl⟩))
  (λos started H enc _=>shiftersKnown_lifted os started H enc)
end Go.Proofs.Ytddaobhpffpmoaa
