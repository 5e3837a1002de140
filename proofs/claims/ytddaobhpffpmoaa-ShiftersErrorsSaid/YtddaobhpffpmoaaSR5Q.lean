/-
  ShiftersErrors answers true for every input, leaves the input as it is, and never panics. There is no condition.
-/
import Derived.Test.YtddaobhpffpmoaaSR5QSz
import Derived.Test.YtddaobhpffpmoaaSR5QSr
import Derived.Test.YtddaobhpffpmoaaSR5QGw
set_option linter.all false
namespace Go.Proofs.Ytddaobhpffpmoaa
open Go.ChangeShapes Go.WideShapes Go.ChangeAt Go.RowKit
open Go.Abs
theorem wf_i64{n:Int}(h:(Lit.int .i64 n).wf=true): -9223372036854775808≤n∧n≤9223372036854775807:=by
 simp[Lit.wf,IntKind.has,IntKind.min,IntKind.max,IntKind.signed,IntKind.bits]at h
 omega
theorem Try.params15:Try.f15.params= #[119,29]:=by kernel_rfl
set_option maxRecDepth 100000 in
theorem shiftersErrors_lifted(os:Os)(started:os.Started)(H:Type)(enc:TypeId×Value→H):
  ReturnsInHanded {} Try.checked os 15 .any (Rows.shiftersErrorsSpec.pre6 enc Try.prog Try.f15 Rows.shiftersErrorsRow.domain false) (Rows.shiftersErrorsSpec.post enc Try.prog Try.f15 false true false false):=by
 refine handed_sized (C:=Try.checked) Try.own started (by kernel_rfl) Try.func15
  (ChangeSpec.witness6 (enc:=enc) (C:=Try.checked) false ⟨#[],#[.agg #[.int .i64 0,.int .u64 0,.slice none 0 0,.int .i64 0,.int .u64 0,.int .i64 0],.slice none 0 0],[]⟩ 8 (by kernel_rfl) (by kernel_rfl) (by kernel_rfl) (by kernel_rfl)) ?_
 intro W base args ds gs before hval0 hW hwt
 have hval:∀(j:Nat) t v,Try.f15.params[j]? =some t→args[j]? =some v→Value.okWide Try.prog W .any base t v:=hval0
 have hW':=hW
 obtain⟨p,q,hA0,hV,rfl,hfz,hnd⟩:=hW
 have hA:DataW.TrodAll enc Try.prog W 0 (fun _=>true) true Try.f15.params.toList args.toList ds p:=hA0
 rw[Try.params15]at hA hval hwt
 obtain⟨v0,v1,d0,d1,p0,p1,rfl,rfl,rfl,h0,h1⟩:=trodAll_two hA
 obtain⟨x0,hx0,g0⟩:=arg_agg wS wO (hval 0 119 v0 rfl rfl) h0
 obtain⟨x1,hx1,tr1,e1,g1⟩:=arg_one bllS bllO (hval 1 29 v1 rfl rfl) h1
 have f1:tr1=T.imm (x1.flatMap (Ly.sl (.int .u8)).trees) x1.length none:=(List.cons.inj e1).1.symm
 subst f1
 have hargs:=argsR2 g0 g1
 have hr:=M15.known.ok ⟨x0.1,x0.2.1,x0.2.2.1,x0.2.2.2.1,x0.2.2.2.2.1,x0.2.2.2.2.2,x1⟩ true (Sf.run15' (wf_i64 hx0.1) (wf_u64 hx0.2.1) (fun p hp=>wf_u64 (hx0.2.2.1.2 p hp)) (wf_i64 hx0.2.2.2.1) (wf_u64 hx0.2.2.2.2.1) (fun r hr v hv=>wf_u8' ((hx1.2 r hr).2 v hv)))
 refine(fn_calls hr hargs gl_none).mono fun e W' ⟨he,_,hsame,hos,hout⟩=> ?_
 subst he
 refine⟨_,rfl,post_true Try.laidOut ?_ rfl rfl Try.underlying4 ?_ hW' hsame hos hout⟩
 ·intro t ht
  rw[Try.params15]at ht
  simp at ht
  rcases ht with rfl|rfl<;>exact⟨by kernel_rfl,of_decide_eq_true (by kernel_rfl)⟩
 ·rfl
theorem shiftersErrors_holds:Rows.ShiftersErrorsSaid:=
 OpenClaim.holds_of_wide 15 Try.f15 rfl rfl rfl rfl rfl rfl rfl ⟨rfl,rfl,rfl,rfl,rfl⟩ rfl rfl rfl rfl rfl (by kernel_rfl) Try.func15 (by kernel_rfl)
  (of_decide_eq_true (by kernel_rfl)) (by unfold Func.isWrapper;first|(rw[if_pos (by decide+kernel)];kernel_rfl)|(rw[if_neg (by decide+kernel)];exact⟨rfl,rfl⟩))
  (fun os started H enc _=>shiftersErrors_lifted os started H enc)
end Go.Proofs.Ytddaobhpffpmoaa
