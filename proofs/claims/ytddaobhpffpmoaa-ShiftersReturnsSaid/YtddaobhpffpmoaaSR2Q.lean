/-
  ShiftersReturns answers true for every input, leaves the input as it is, and never panics. There is no condition.
-/
import Derived.Test.YtddaobhpffpmoaaSR2QSPH
import Derived.Test.YtddaobhpffpmoaaSR2QSr
set_option linter.all false
namespace Go.Proofs.Ytddaobhpffpmoaa
open Go.ChangeShapes Go.WideShapes Go.ChangeAt Go.RowKit
open Go.Abs
theorem Try.params11:Try.f11.params= #[87,88,89]:=by kernel_rfl
set_option maxRecDepth 100000 in
theorem shiftersReturns_lifted(os:Os)(started:os.Started)(H:Type)(enc:TypeId×Value→H):
  ReturnsInHanded {} Try.checked os 11 .any (Rows.shiftersReturnsSpec.pre6 enc Try.prog Try.f11 Rows.shiftersReturnsRow.domain false) (Rows.shiftersReturnsSpec.post enc Try.prog Try.f11 false true false false):=by
 refine handed_sized (C:=Try.checked) Try.own started (by kernel_rfl) Try.func11
  (ChangeSpec.witness6 (enc:=enc) (C:=Try.checked) false ⟨#[],#[.agg #[.int .u8 0,.int .u64 0],.agg #[.int .u64 0,.int .u64 0],.int .u16 0],[]⟩ 8 (by kernel_rfl) (by kernel_rfl) (by kernel_rfl) (by kernel_rfl)) ?_
 intro W base args ds gs before hval0 hW hwt
 have hval:∀(j:Nat) t v,Try.f11.params[j]? =some t→args[j]? =some v→Value.okWide Try.prog W .any base t v:=hval0
 have hW':=hW
 obtain⟨p,q,hA0,hV,rfl,hfz,hnd⟩:=hW
 have hA:DataW.TrodAll enc Try.prog W 0 (fun _=>true) true Try.f11.params.toList args.toList ds p:=hA0
 rw[Try.params11]at hA hval hwt
 obtain⟨v0,v1,v2,d0,d1,d2,p0,p1,p2,rfl,rfl,rfl,h0,h1,h2⟩:=trodAll_three hA
 obtain⟨x0,hx0,g0⟩:=arg_agg lS lO (hval 0 87 v0 rfl rfl) h0
 obtain⟨x1,hx1,hu1,g1⟩:=arg_aggW (.inr arS) arO (hval 1 88 v1 rfl rfl) h1
 have hw1:=hu1 (weigh hwt 1 rfl rfl)
 obtain⟨x2,hx2,tr2,e2,g2⟩:=arg_one u16S u16O (hval 2 89 v2 rfl rfl) h2
 have f2:tr2=T.int .u16 x2:=(List.cons.inj e2).1.symm
 subst f2
 have hargs:=argsR3 g0 g1 g2
 have hr:=M11.known.ok ⟨x0.1,x0.2,x1.1,x1.2,x2⟩ true (Sf.run11' (wf_u8' hx0.1) (wf_u64 hx0.2) (wf_u64 hx1.1) (wf_u64 hx1.2) (wf_u16 hx2))
 refine(fn_calls hr hargs gl_none).mono fun e W' ⟨he,_,hsame,hos,hout⟩=> ?_
 subst he
 refine⟨_,rfl,post_true Try.laidOut ?_ rfl rfl Try.underlying4 ?_ hW' hsame hos hout⟩
 ·intro t ht
  rw[Try.params11]at ht
  simp at ht
  rcases ht with rfl|rfl|rfl<;>exact⟨by kernel_rfl,of_decide_eq_true (by kernel_rfl)⟩
 ·rfl
theorem shiftersReturns_holds:Rows.ShiftersReturnsSaid:=
 OpenClaim.holds_of_wide 11 Try.f11 rfl rfl rfl rfl rfl rfl rfl ⟨rfl,rfl,rfl,rfl,rfl⟩ rfl rfl rfl rfl rfl (by kernel_rfl) Try.func11 (by kernel_rfl)
  (of_decide_eq_true (by kernel_rfl)) (by unfold Func.isWrapper;first|(rw[if_pos (by decide+kernel)];kernel_rfl)|(rw[if_neg (by decide+kernel)];exact⟨rfl,rfl⟩))
  (fun os started H enc _=>shiftersReturns_lifted os started H enc)
end Go.Proofs.Ytddaobhpffpmoaa
