/-
  Gf2sKnown answers true for every input, leaves the input as it is, and never panics. There is no condition.
-/
import Derived.Test.YtddaobhpffpmoaaGRAQGt
import Derived.Test.YtddaobhpffpmoaaGRAQGR0
set_option linter.all false
namespace Go.Proofs.Ytddaobhpffpmoaa
open Go.ChangeShapes Go.WideShapes Go.ChangeAt Go.RowKit
open Go.Abs
theorem Try.params10:Try.f10.params= #[]:=by kernel_rfl
set_option maxRecDepth 100000 in
theorem V2(os:Os)(started:os.Started)(H:Type)(enc:TypeId×Value→H):
  ReturnsInHanded {} Try.checked os 10 .any (Rows.gf2sKnownSpec.pre6 enc Try.prog Try.f10 Rows.gf2sKnownRow.domain false) (Rows.gf2sKnownSpec.post enc Try.prog Try.f10 false true false false):=by
 refine handed_sized (C:=Try.checked) Try.own started (by kernel_rfl) Try.func10
  (ChangeSpec.witness6 (enc:=enc) (C:=Try.checked) false ⟨#[],#[],[]⟩ 8 (by kernel_rfl) (by kernel_rfl) (by kernel_rfl) (by kernel_rfl)) ?_
 intro W base args ds gs before hval0 hW hwt
 have hval:∀(j:Nat) t v,Try.f10.params[j]? =some t→args[j]? =some v→Value.okWide Try.prog W .any base t v:=hval0
 have hW':=hW
 obtain⟨p,q,hA0,hV,rfl,hfz,hnd⟩:=hW
 have hA:DataW.TrodAll enc Try.prog W 0 (fun _=>true) true Try.f10.params.toList args.toList ds p:=hA0
 rw[Try.params10]at hA hval hwt
 obtain⟨rfl,rfl,rfl⟩:=trodAll_none hA
 have hargs:jG KB W [] #[]:=⟨rfl,fun i hi=>absurd hi (Nat.not_lt_zero i)⟩
 have hr:=M10.known.ok () true Gf.run10
 refine(fn_calls hr hargs gl_none).mono fun e W' ⟨he,_,hsame,hos,hout⟩=> ?_
 subst he
 refine⟨_,rfl,post_true Try.laidOut ?_ rfl rfl Try.underlying4 ?_ hW' hsame hos hout⟩
 ·intro t ht
  rw[Try.params10]at ht
  simp at ht
 ·rfl
theorem gf2sKnown_holds:Rows.Gf2sKnownSaid:=
 OpenClaim.holds_of_wide 10 Try.f10 rfl rfl rfl rfl rfl rfl rfl ⟨rfl,rfl,rfl,rfl,rfl⟩ rfl rfl rfl rfl rfl (by kernel_rfl) Try.func10 (by kernel_rfl)
  (of_decide_eq_true (by kernel_rfl)) (by unfold Func.isWrapper;first|(rw[if_pos (by decide+kernel)];kernel_rfl)|(rw[if_neg (by decide+kernel)];exact⟨rfl,rfl⟩))
  (fun os started H enc _=>V2 os started H enc)
end Go.Proofs.Ytddaobhpffpmoaa
