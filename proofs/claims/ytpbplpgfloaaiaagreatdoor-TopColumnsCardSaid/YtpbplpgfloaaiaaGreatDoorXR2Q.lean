/-
  TopColumns answers true for every input, leaves the input as it is, and never panics. The one condition: the variables logic.fanins, scoaps.unit and scoaps.never hold what the program lays in them.
-/
import Derived.Test.YtpbplpgfloaaiaaGreatDoorXR2QZe
set_option linter.all false
set_option maxRecDepth 100000
namespace Go.Proofs.YtpbplpgfloaaiaaGreatDoor
open Go.ChangeShapes Go.WideShapes Go.ChangeAt Go.RowKit
open Go.Abs
theorem wf_b{n:Int}(h:(Lit.int .u8 n).wf=true):0<=n/\n<=255:=by simp[Lit.wf,IntKind.has,IntKind.min,IntKind.max,IntKind.signed,IntKind.bits]at h;omega
theorem wf_w{n:Int}(h:(Lit.int .u64 n).wf=true):Pl.W n:=by simp[Lit.wf,IntKind.has,IntKind.min,IntKind.max,IntKind.signed,IntKind.bits]at h;exact⟨by omega,by omega⟩
theorem wf_32{n:Int}(h:(Lit.int .u32 n).wf=true):0<=n/\n<4294967296:=by simp[Lit.wf,IntKind.has,IntKind.min,IntKind.max,IntKind.signed,IntKind.bits]at h;omega
theorem at32{l:List Int}(h:∀v∈l,0<=v/\v<4294967296):∀i,0<=Pl.at0 l i/\Pl.at0 l i<4294967296:=λi=>by
 unfold Pl.at0
 cases hi:l[i]? with
 |none=>exact⟨by decide,by decide⟩
 |some v=>exact h v (BM hi)
theorem Tryz.params4:Tryz.f4.params= #[27,64,70]:=by kernel_rfl
theorem topColumns_lifted(os:Os)(started:os.Started)(H:Type)(enc:TypeId×Value->H):
  ReturnsInHanded {} Tryz.checked os 4 .any (λw args=>(Rows.topColumnsSpec.pre enc Tryz.prog Tryz.f4 Rows.topColumnsRow.domain false w args/\laidMet Tryz.prog laidV w)/\sizedMet enc Tryz.prog Tryz.f4 (OpenSpec.ofChange Rows.topColumnsSpec) false w args)
   (Rows.topColumnsSpec.post enc Tryz.prog Tryz.f4 false true false false):=by
 refine returnsInHanded_of_change_and (C:=Tryz.checked) (X:=λw _=>laidMet Tryz.prog laidV w) (λ_ _ _ hh h=>h.of_heap hh) Tryz.own started (by kernel_rfl) Tryz.func4
  (ChangeSpec.witness_at (enc:=enc) (C:=Tryz.checked) (os:=os) (X:=λw _=>laidMet Tryz.prog laidV w) false (laidWorld os) #[.agg #[.int .u8 0,.int .u8 0,.int .u8 0,.int .u8 0,.bool false,.bool false,.int .u8 0,.int .u8 0,.int .u8 0,.int .u8 0,.slice none 0 0,.slice none 0 0],.agg #[.int .u8 0,.int .u8 0,.int .u8 0,.int .u8 0,.bool false],.agg #[.int .u8 0,.int .u64 0,.int .u8 0,.slice none 0 0]] 8 rfl (by kernel_rfl) (by kernel_rfl) (by kernel_rfl) (by kernel_rfl) (by kernel_rfl) (laidWorld_met os _)) ?_
 intro W base args ds gs before hval0 hW hcnd _ hL _;have hval:∀(j:Nat) t v,Tryz.f4.params[j]? =some t->args[j]? =some v->Value.okWide Tryz.prog W .any base t v:=hval0;have hW':=hW;obtain⟨p,q,hA0,hV,rfl,hfz,hnd⟩:=hW;have hA:DataW.TrodAll enc Tryz.prog W 0 (λ_=>true) true Tryz.f4.params.toList args.toList ds p:=hA0;rw[Tryz.params4]at hA hval;obtain⟨v0,v1,v2,d0,d1,d2,p0,p1,p2,rfl,rfl,rfl,h0,h1,h2⟩:=trodAll_three hA;obtain⟨x0,hx0,g0⟩:=arg_agg xS xO (hval 0 27 v0 rfl rfl) h0;obtain⟨x1,hx1,g1⟩:=arg_agg fS fO (hval 1 64 v1 rfl rfl) h1;obtain⟨x2,hx2,g2⟩:=arg_agg zS zO (hval 2 70 v2 rfl rfl) h2;have hargs:=argsR3 g0 g1 g2;have hr:=M4.known.ok ⟨x0.1,x0.2.1,x0.2.2.1.1,x0.2.2.1.2,x0.2.2.2.1,x0.2.2.2.2.1,x0.2.2.2.2.2.1.1,x0.2.2.2.2.2.1.2.1,x0.2.2.2.2.2.1.2.2.1,x0.2.2.2.2.2.1.2.2.2,x0.2.2.2.2.2.2.1,x0.2.2.2.2.2.2.2,x1.1,x1.2.1,x1.2.2.1,x1.2.2.2.1,x1.2.2.2.2,x2.1,x2.2.1,x2.2.2.1,x2.2.2.2⟩ true
  (Co.run4 rfl ⟨wf_b hx0.1,wf_b hx0.2.1,wf_b hx0.2.2.1.1,wf_b hx0.2.2.1.2,λg hg=>have hh:=hx0.2.2.2.2.2.2.1.2 g hg;⟨wf_b hh.1,wf_b hh.2.1,wf_b hh.2.2.1,wf_b hh.2.2.2⟩,λo ho=>wf_b (hx0.2.2.2.2.2.2.2.2 o ho)⟩
   (wf_b hx1.2.1) (wf_b hx1.2.2.1) (wf_b hx2.1) (wf_w hx2.2.1) (wf_b hx2.2.2.1) (at32 λv hv=>wf_32 (hx2.2.2.2.2 v hv)))
 refine(fn_calls hr hargs (gl_laid hL)).mono λe W' ⟨he,_,hsame,hos,hout⟩=> ?_;subst he;refine⟨_,rfl,post_true Tryz.laidOut ?_ rfl rfl Tryz.underlying4 ?_ hW' hsame hos hout⟩
 ·intro t ht;rw[Tryz.params4]at ht;simp at ht;rcases ht with rfl|rfl|rfl<;>exact⟨by kernel_rfl,AO (by kernel_rfl)⟩
 ·rfl
theorem topColumns_row:Rows.TopColumnsSaid:=
 OpenClaim.holds_of_wide 4 Tryz.f4 rfl rfl rfl rfl rfl rfl rfl ⟨rfl,rfl,rfl,rfl,rfl⟩ rfl rfl rfl rfl rfl (by kernel_rfl) Tryz.func4 (by kernel_rfl)
  (AO (by kernel_rfl)) (by unfold Func.isWrapper;first|(rw[AF (by decide+kernel)];kernel_rfl)|(rw[AP (by decide+kernel)];exact⟨rfl,rfl⟩))
  (λos started H enc _=>topColumns_lifted os started H enc)
theorem topColumns_holds:Rows.TopColumnsCardSaid:=
 Claim7.holds_tied_plain_at .later [] [.data,.data,.data] true (true,"8450bb8582f70332587d38c8395c4047ef3d8e5ce3df175ef8e88ebc63d9a19b") true
  topColumns_row (λ_ h=>by cases h) (by kernel_rfl) (λ_ h=>by cases h) topColumns_row_tie rfl ⟨rfl,rfl⟩ (by kernel_rfl) rfl
  (λf fn hf hfn=>by
   obtain rfl : f = 4 := Aq ((show Tryz.prog.funcNamed "probecard/probecardtop.TopColumns" = some 4 by kernel_rfl).symm.trans hf) |>.symm
   obtain rfl:fn=Tryz.f4:=(Aq (Tryz.func4.symm.trans hfn)).symm;exact⟨by kernel_rfl,λj t ht=>by
    have ht:=BM (l:=Tryz.f4.params.toList) (by simpa using ht);rw[Tryz.params4]at ht;simp at ht;rcases ht with rfl|rfl|rfl<;>exact(show Tryz.prog.wantsStandIn _=false by kernel_rfl)⟩)
  (by kernel_rfl)
end Go.Proofs.YtpbplpgfloaaiaaGreatDoor
