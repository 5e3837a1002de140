/-
  ShiftersEncodes answers true for every input, leaves the input as it is, and never panics. There is no condition.
-/
import Derived.Test.YtddaobhpffpmoaaSR6QSPP
import Derived.Test.YtddaobhpffpmoaaSR6QSr
set_option linter.all false
namespace Go.Proofs.Ytddaobhpffpmoaa
open Go.ChangeShapes Go.WideShapes Go.ChangeAt Go.RowKit
open Go.Abs
theorem Try.params12:Try.f12.params= #[100,85,22]:=by kernel_rfl
set_option maxRecDepth 100000 in
theorem shiftersEncodes_lifted(os:Os)(started:os.Started)(H:Type)(enc:TypeId×Value→H):
  ReturnsInHanded {} Try.checked os 12 .any (Rows.shiftersEncodesSpec.pre6 enc Try.prog Try.f12 Rows.shiftersEncodesRow.domain false) (Rows.shiftersEncodesSpec.post enc Try.prog Try.f12 false true false false):=by
 refine handed_sized (C:=Try.checked) Try.own started (by kernel_rfl) Try.func12
  (ChangeSpec.witness6 (enc:=enc) (C:=Try.checked) false ⟨#[],#[.agg #[.int .u8 0,.int .u64 0,.slice none 0 0,.int .u8 0],.int .u64 0,.slice none 0 0],[]⟩ 8 (by kernel_rfl) (by kernel_rfl) (by kernel_rfl) (by kernel_rfl)) ?_
 intro W base args ds gs before hval0 hW hwt
 have hval:∀(j:Nat) t v,Try.f12.params[j]? =some t→args[j]? =some v→Value.okWide Try.prog W .any base t v:=hval0
 have hW':=hW
 obtain⟨p,q,hA0,hV,rfl,hfz,hnd⟩:=hW
 have hA:DataW.TrodAll enc Try.prog W 0 (fun _=>true) true Try.f12.params.toList args.toList ds p:=hA0
 rw[Try.params12]at hA hval hwt
 obtain⟨v0,v1,v2,d0,d1,d2,p0,p1,p2,rfl,rfl,rfl,h0,h1,h2⟩:=trodAll_three hA
 obtain⟨x0,hx0,g0⟩:=arg_agg dS dO (hval 0 100 v0 rfl rfl) h0
 obtain⟨x1,hx1,tr1,e1,g1⟩:=arg_one u64S u64O (hval 1 85 v1 rfl rfl) h1
 have f1:tr1=T.int .u64 x1:=(List.cons.inj e1).1.symm
 subst f1
 obtain⟨x2,hx2,tr2,e2,g2⟩:=arg_one bylS bylO (hval 2 22 v2 rfl rfl) h2
 have f2:tr2=T.imm (x2.flatMap (Ly.int .u8).trees) x2.length none:=(List.cons.inj e2).1.symm
 subst f2
 have hargs:=argsR3 g0 g1 g2
 have hr:=Sf.run12 (care:=x2) (wf_u8' hx0.1.1) (wf_u64 hx0.1.2) (fun p hp=>wf_u64 (hx0.2.1.2 p hp)) (wf_u8' hx0.2.2) (wf_u64 hx1)
 refine(fn_calls hr hargs gl_none).mono fun e W' ⟨he,_,hsame,hos,hout⟩=> ?_
 subst he
 refine⟨_,rfl,post_true Try.laidOut ?_ rfl rfl Try.underlying4 ?_ hW' hsame hos hout⟩
 ·intro t ht
  rw[Try.params12]at ht
  simp at ht
  rcases ht with rfl|rfl|rfl<;>exact⟨by kernel_rfl,of_decide_eq_true (by kernel_rfl)⟩
 ·rfl
theorem shiftersEncodes_holds:Rows.ShiftersEncodesSaid:=
 OpenClaim.holds_of_wide 12 Try.f12 rfl rfl rfl rfl rfl rfl rfl ⟨rfl,rfl,rfl,rfl,rfl⟩ rfl rfl rfl rfl rfl (by kernel_rfl) Try.func12 (by kernel_rfl)
  (of_decide_eq_true (by kernel_rfl)) (by unfold Func.isWrapper;first|(rw[if_pos (by decide+kernel)];kernel_rfl)|(rw[if_neg (by decide+kernel)];exact⟨rfl,rfl⟩))
  (fun os started H enc _=>shiftersEncodes_lifted os started H enc)
end Go.Proofs.Ytddaobhpffpmoaa
