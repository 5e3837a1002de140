/-
  CompactorsKnown answers true for every input, leaves the input as it is, and never panics. There is no condition.
-/
import Derived.Test.YtfcbahfdgopgfaaKR9QMr
import Derived.Test.YtfcbahfdgopgfaaKR9QSyL
import Derived.Test.YtfcbahfdgopgfaaKR9QAbsY
set_option linter.all false
namespace Go.Proofs.Ytfcbahfdgopgfaa
open Go.ChangeShapes Go.WideShapes Go.ChangeAt Go.RowKit
open Go.Abs
theorem Try.own:ownKnob Try.prog.godebug=none:=by kernel_rfl
theorem Try.laidOut:laidOutB Try.prog=true:=by kernel_rfl
theorem gl_none{W:World}:GlOk Yw W:=fun _ _ _ h=>by cases h
theorem Try.params8:Try.f8.params= #[]:=by kernel_rfl
set_option maxRecDepth 100000 in
theorem Ya(os:Os)(started:os.Started)(H:Type)(enc:TypeId×Value→H):
  ReturnsInHanded {} Try.checked os 8 .any (Rows.compactorsKnownSpec.pre6 enc Try.prog Try.f8 Rows.compactorsKnownRow.domain false) (Rows.compactorsKnownSpec.post enc Try.prog Try.f8 false true false false):=by
 refine handed_sized (C:=Try.checked) Try.own started (by kernel_rfl) Try.func8
  (ChangeSpec.witness6 (enc:=enc) (C:=Try.checked) false ⟨#[],#[],[]⟩ 8 (by kernel_rfl) (by kernel_rfl) (by kernel_rfl) (by kernel_rfl)) ?_
 intro W base args ds gs before hval0 hW hwt
 have hval:∀(j:Nat) t v,Try.f8.params[j]? =some t→args[j]? =some v→Value.okWide Try.prog W .any base t v:=hval0
 have hW':=hW
 obtain⟨p,q,hA0,hV,rfl,hfz,hnd⟩:=hW
 have hA:DataW.TrodAll enc Try.prog W 0 (fun _=>true) true Try.f8.params.toList args.toList ds p:=hA0
 rw[Try.params8]at hA hval hwt
 obtain⟨rfl,rfl,rfl⟩:=trodAll_none hA
 have hargs:argsR Yw W [] #[]:=⟨rfl,fun i hi=>absurd hi (Nat.not_lt_zero i)⟩
 have hr:=F8.known.ok () true Pl.run8
 refine(fn_calls hr hargs gl_none).mono fun e W' ⟨he,_,hsame,hos,hout⟩=> ?_
 subst he
 refine⟨_,rfl,post_true Try.laidOut ?_ rfl rfl Try.underlying4 ?_ hW' hsame hos hout⟩
 ·intro t ht
  rw[Try.params8]at ht
  simp at ht
 ·rfl
theorem compactorsKnown_holds:Rows.CompactorsKnownSaid:=
 OpenClaim.holds_of_wide 8 Try.f8 rfl rfl rfl rfl rfl rfl rfl ⟨rfl,rfl,rfl,rfl,rfl⟩ rfl rfl rfl rfl rfl (by kernel_rfl) Try.func8 (by kernel_rfl)
  (of_decide_eq_true (by kernel_rfl)) (by unfold Func.isWrapper;first|(rw[if_pos (by decide+kernel)];kernel_rfl)|(rw[if_neg (by decide+kernel)];exact⟨rfl,rfl⟩))
  (fun os started H enc _=>Ya os started H enc)
end Go.Proofs.Ytfcbahfdgopgfaa
