/-
  TopClass answers true for every input, leaves the input as it is, and never panics. The one condition: the variable logic.fanins holds what the program lays in it.
-/
import Derived.Test.YtpbplpgfloaaiaaGreatDoorXS2QZe
set_option linter.all false
set_option maxRecDepth 100000
namespace Go.Proofs.YtpbplpgfloaaiaaGreatDoor
open Go.Abs
open Go.IntKind(i64)
open Sum(inl inr)
open Go.Proofs.Tryz(prog)
open Go.ChangeShapes Go.WideShapes Go.ChangeAt Go.RowKit
def wf_b{n:Int}(h:(Lit.int .u8 n).wf=true):0<=n/\n<=255:=by simp[Lit.wf,IntKind.has,IntKind.min,IntKind.max,IntKind.signed,IntKind.bits]at h;omega
def agg_bel{ts:List T}{w w':World}{v:Value}(h:VR Qd w (.agg (ts.map Cell.t)) v)(hb:Aw.Bel w.heap.size w w'):VR Qd w' (.agg (ts.map Cell.t)) v:=by obtain⟨arr,rfl,h1,h2⟩:=h;refine⟨arr,rfl,h1,λi hi=> ?_⟩;obtain⟨u,e,h3⟩:=h2 i hi;refine⟨u,e,?_⟩;rw[AP]at h3⊢;exact Tx.bel_TR hb h3
def agg12{ts:List T}(hl:ts.length=12){w:World}{v:Value}(h:VR Qd w (.agg (ts.map Cell.t)) v):∃x0 x1 x2 x3 x4 x5 x6 x7 x8 x9 x10 x11,v=.agg #[x0,x1,x2,x3,x4,x5,x6,x7,x8,x9,x10,x11]:=by
 obtain⟨arr,rfl,h1,_⟩:=h;rw[AE,hl]at h1;refine⟨arr[0],arr[1],arr[2],arr[3],arr[4],arr[5],arr[6],arr[7],arr[8],arr[9],arr[10],arr[11],?_⟩;congr 1;refine Cc (by simp[h1]) λj hj hj'=> ?_;have:j<12:=by omega
 rcases (show j=0\/j=1\/j=2\/j=3\/j=4\/j=5\/j=6\/j=7\/j=8\/j=9\/j=10\/j=11 by omega) with rfl|rfl|rfl|rfl|rfl|rfl|rfl|rfl|rfl|rfl|rfl|rfl<;>rfl
def Tryz.params3:Tryz.f3.params= #[27,28,5]:=by kernel_rfl
def topClass_lifted(os:Os)(started:os.Started)(H:Type)(enc:TypeId×Value->H):
  ReturnsInHanded {} Tryz.checked os 3 .any (λw args=>(Rows.topClassSpec.pre enc prog Tryz.f3 Rows.topClassRow.domain false w args/\laidMet prog laidV w)/\sizedMet enc prog Tryz.f3 (OpenSpec.ofChange Rows.topClassSpec) false w args)
   (Rows.topClassSpec.post enc prog Tryz.f3 false true false false):=by
 refine returnsInHanded_of_change_and (C:=Tryz.checked) (X:=λw _=>laidMet prog laidV w) (λ_ _ _ hh h=>h.of_heap hh) Tryz.own started (by kernel_rfl) Tryz.func3
  (ChangeSpec.witness_at (enc:=enc) (C:=Tryz.checked) (os:=os) (X:=λw _=>laidMet prog laidV w) false (laidWorld os) #[.agg #[.int .u8 0,.int .u8 0,.int .u8 0,.int .u8 0,.bool false,.bool false,.int .u8 0,.int .u8 0,.int .u8 0,.int .u8 0,.slice none 0 0,.slice none 0 0],.slice none 0 0,.int .u8 0] 8 rfl (by kernel_rfl) (by kernel_rfl) (by kernel_rfl) (by kernel_rfl) (by kernel_rfl) (laidWorld_met os _)) ?_
 intro W base args ds gs before hval0 hW hcnd _ hL _;have hval:∀(j:Nat) t v,Tryz.f3.params[j]? =some t->args[j]? =some v->Value.okWide prog W .any base t v:=hval0;have hW':=hW;obtain⟨p,q,hA0,hV,rfl,hfz,hnd⟩:=hW;have hA:DataW.TrodAll enc prog W 0 (λ_=>true) true Tryz.f3.params.toList args.toList ds p:=hA0;rw[Tryz.params3]at hA hval;obtain⟨v0,v1,v2,d0,d1,d2,p0,p1,p2,rfl,rfl,rfl,h0,h1,h2⟩:=trodAll_three hA;obtain⟨x0,hx0,g0⟩:=arg_agg xS xO (hval 0 27 v0 rfl rfl) h0;obtain⟨x1,hx1,tr1,e1,g1⟩:=arg_one zS zO (hval 1 28 v1 rfl rfl) h1;have f1:tr1=T.imm (x1.flatMap (Ly.trees Tx.lyP)) x1.length none:=(List.cons.inj e1).1.symm;rw[f1]at g1;obtain⟨x2,hx2,tr2,e2,g2⟩:=arg_one bS bO (hval 2 5 v2 rfl rfl) h2;have f2:tr2=T.int .u8 x2:=(List.cons.inj e2).1.symm;rw[f2]at g2;have hv2:=Tx.int_of (U:=Qd.un) g2;subst hv2;have hb2:=wf_b hx2;obtain⟨qn,rfl⟩:∃qn:Nat,x2=(qn:Int):=⟨x2.toNat,(Az hb2.1).symm⟩;have hgl:=gl_laid hL;obtain⟨N,C,hm5,hO⟩:=Co.m5 (xi:=x0.1) (df:=x0.2.1) (d0:=x0.2.2.1.1) (d1:=x0.2.2.1.2) (bus:=x0.2.2.2.1) (mem:=x0.2.2.2.2.1) (w0:=x0.2.2.2.2.2.1.1) (w1:=x0.2.2.2.2.2.1.2.1) (w2:=x0.2.2.2.2.2.1.2.2.1) (w3:=x0.2.2.2.2.2.1.2.2.2) (gs:=x0.2.2.2.2.2.2.1) (xo:=x0.2.2.2.2.2.2.2)
  ⟨wf_b hx0.1,wf_b hx0.2.1,wf_b hx0.2.2.1.1,wf_b hx0.2.2.1.2,λg hg=>have hh:=hx0.2.2.2.2.2.2.1.2 g hg;⟨wf_b hh.1,wf_b hh.2.1,wf_b hh.2.2.1,wf_b hh.2.2.2⟩,λo ho=>wf_b (hx0.2.2.2.2.2.2.2.2 o ho)⟩
 obtain⟨o,R⟩:=Co.runs hO.ck hO.tp;have hCl:C.length<=40:=by have:=hO.lc;omega
 obtain⟨Q7,hm6,h20,hP⟩:=Co.m6 (A:=(List.range N.length).map M52.nm) (C:=C) (N:=N) (by have:=hO.l1;omega) (z:=x1) (λt ht=>have hh:=hx1.2 t ht;⟨hh.1.1,hh.2.1,λv hv=>(wf_b (hh.1.2 v hv)).1,λv hv=>(wf_b (hh.2.2 v hv)).1⟩);have hm9:=Co.m9 R hCl (l:=Co.flN N) (by rw[Co.flN_len];have:=Co.fst_646 hO.ck (A5 _);omega) Co.flN_fa h20 hP;obtain⟨y0,y1,y2,y3,y4,y5,y6,y7,y8,y9,y10,y11,rfl⟩:=agg12 (ts:=xL.trees x0) rfl g0;refine(Tx.class_walk R W hgl y0 y1 y2 y3 y4 y5 y6 y7 y8 y9 y10 y11 v1 qn (by omega) (λw1 hb=>Tx.call5 hm5 (Aw.gl_bel hgl hb) (agg_bel (ts:=xL.trees x0) g0 hb)) hm6 g1 hm9 (Tx.dict_ok R hCl h20) (λw1 hg=>Tx.known_walk hg)).mono λe W' ⟨he,hb⟩=> ?_;have hsame:=hb.block;have hos:=hb.os;have hout:=hb.out;subst he;refine⟨_,rfl,post_true Tryz.laidOut ?_ rfl rfl Tryz.underlying4 ?_ hW' hsame hos hout⟩
 ·intro t ht;rw[Tryz.params3]at ht;simp at ht;rcases ht with rfl|rfl|rfl<;>exact⟨by kernel_rfl,AO (by kernel_rfl)⟩
 ·rfl
def topClass_row:Rows.TopClassSaid:=
 OpenClaim.holds_of_wide 3 Tryz.f3 rfl rfl rfl rfl rfl rfl rfl ⟨rfl,rfl,rfl,rfl,rfl⟩ rfl rfl rfl rfl rfl (by kernel_rfl) Tryz.func3 (by kernel_rfl)
  (AO (by kernel_rfl)) (by unfold Func.isWrapper;first|(rw[AC (by decide+kernel)];kernel_rfl)|(rw[AK (by decide+kernel)];exact⟨rfl,rfl⟩))
  (λos started H enc _=>topClass_lifted os started H enc)
theorem topClass_holds:Rows.TopClassCardSaid:=
 Claim7.holds_tied_plain_at .later [] [.data] true (true,"8450bb8582f70332587d38c8395c4047ef3d8e5ce3df175ef8e88ebc63d9a19b") true
  topClass_row (λ_ h=>by cases h) (by kernel_rfl) (λ_ h=>by cases h) topClass_row_tie rfl ⟨rfl,rfl⟩ (by kernel_rfl) rfl
  (λf fn hf hfn=>by
   obtain rfl : f = 3 := BA ((show prog.funcNamed "probecard/probecardtop.TopClass" = some 3 by kernel_rfl).symm.trans hf) |>.symm
   obtain rfl:fn=Tryz.f3:=(BA (Tryz.func3.symm.trans hfn)).symm;exact⟨by kernel_rfl,λj t ht=>by
    have ht:=BX (l:=Tryz.f3.params.toList) (by simpa using ht);rw[Tryz.params3]at ht;simp at ht;rcases ht with rfl|rfl|rfl<;>exact(show prog.wantsStandIn _=false by kernel_rfl)⟩)
  (by kernel_rfl)
end Go.Proofs.YtpbplpgfloaaiaaGreatDoor
