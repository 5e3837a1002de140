/-
  MarchrunsLonger answers true for every input, leaves the input as it is, and never panics. The one condition: the variable marches.table holds what the program lays in it.
-/
import Derived.Test.YtcnlccpihknehaaDoorMR5QMR1
import Derived.Test.YtcnlccpihknehaaDoorMR5QMPC
set_option linter.all false
namespace Go.Proofs.YtcnlccpihknehaaDoor
open Go.ChangeShapes Go.WideShapes Go.ChangeAt Go.RowKit
open Go.Abs
theorem Tryd.params13 : Tryd.f13.params = #[25,25,60] := by kernel_rfl
set_option maxRecDepth 100000 in
theorem marchrunsLonger_lifted (os : Os) (started : os.Started) (H : Type) (enc : TypeId × Value → H) :
   ReturnsInHanded {} Tryd.checked os 13 .any (fun w args => (Rows.marchrunsLongerSpec.pre enc Tryd.prog Tryd.f13 Rows.marchrunsLongerRow.domain false w args ∧ laidMet Tryd.prog laidV w) ∧ sizedMet enc Tryd.prog Tryd.f13 (OpenSpec.ofChange Rows.marchrunsLongerSpec) false w args)
     (Rows.marchrunsLongerSpec.post enc Tryd.prog Tryd.f13 false true false false) := by
 refine returnsInHanded_of_change_and (C := Tryd.checked) (X := fun w _ => laidMet Tryd.prog laidV w) (fun _ _ _ hh h => h.of_heap hh) Tryd.own started (by kernel_rfl) Tryd.func13
   (ChangeSpec.witness_at (enc := enc) (C := Tryd.checked) (os := os) (X := fun w _ => laidMet Tryd.prog laidV w) false (laidWorld os) #[.agg #[.slice none 0 0,.slice none 0 0],.agg #[.slice none 0 0,.slice none 0 0],.agg #[.int .u8 0,.int .u16 0,.int .u8 0,.int .u8 0,.int .u8 0]] 8 rfl (by kernel_rfl) (by kernel_rfl) (by kernel_rfl) (by kernel_rfl) (by kernel_rfl) (laidWorld_met os _)) ?_
 intro W base args ds gs before hval0 hW hcnd _ hL _
 have hval : ∀ (j : Nat) t v,Tryd.f13.params[j]? = some t → args[j]? = some v → Value.okWide Tryd.prog W .any base t v := hval0
 have hW' := hW
 obtain ⟨p,q,hA0,hV,rfl,hfz,hnd⟩ := hW
 have hA : DataW.TrodAll enc Tryd.prog W 0 (fun _ => true) true Tryd.f13.params.toList args.toList ds p := hA0
 rw [Tryd.params13] at hA hval
 obtain ⟨v0,v1,v2,d0,d1,d2,p0,p1,p2,rfl,rfl,rfl,h0,h1,h2⟩ := trodAll_three hA
 obtain ⟨x0,hx0,g0⟩ := arg_agg rawS rawO (hval 0 25 v0 rfl rfl) h0
 obtain ⟨x1,hx1,g1⟩ := arg_agg rawS rawO (hval 1 25 v1 rfl rfl) h1
 obtain ⟨x2,hx2,g2⟩ := arg_agg caseS caseO (hval 2 60 v2 rfl rfl) h2
 have hargs := argsR3 g0 g1 g2
 have hr := M13.known.ok ⟨x0.1,x0.2,x1.1,x1.2,x2.1,x2.2.1,x2.2.2.1,x2.2.2.2.1,x2.2.2.2.2⟩ true (Mr.run13 (raw_ok hx0) (raw_ok hx1) (wf_u8 hx2.1) (wf_u8 hx2.2.2.1) (wf_u8 hx2.2.2.2.1) (wf_u8 hx2.2.2.2.2))
 refine (fn_calls hr hargs (gl_laid hL)).mono fun e W' ⟨he,_,hsame,hos,hout⟩ => ?_
 subst he
 refine ⟨_,rfl,post_true Tryd.laidOut ?_ rfl rfl Tryd.underlying4 ?_ hW' hsame hos hout⟩
 · intro t ht
   rw [Tryd.params13] at ht
   simp at ht
   rcases ht with rfl | rfl <;> exact ⟨by kernel_rfl,of_decide_eq_true (by kernel_rfl)⟩
 · rfl
theorem marchrunsLonger_row : Rows.MarchrunsLongerSaid :=
 OpenClaim.holds_of_wide 13 Tryd.f13 rfl rfl rfl rfl rfl rfl rfl ⟨rfl,rfl,rfl,rfl,rfl⟩ rfl rfl rfl rfl rfl (by kernel_rfl) Tryd.func13 (by kernel_rfl)
   (of_decide_eq_true (by kernel_rfl)) (by unfold Func.isWrapper; first | (rw [if_pos (by decide +kernel)]; kernel_rfl) | (rw [if_neg (by decide +kernel)]; exact ⟨rfl,rfl⟩))
   (fun os started H enc _ => marchrunsLonger_lifted os started H enc)
theorem marchrunsLonger_holds : Rows.MarchrunsLongerCardSaid :=
 Claim7.holds_tied_plain_at .later [] [.data] true (true,"9eedd2fb0f1c818c4b102ba4084a6f6c28466fcdb5bd843029b8b1e63e950f85") false
   marchrunsLonger_row (fun _ h => by cases h) (by kernel_rfl) (fun _ h => by cases h) marchrunsLonger_row_tie rfl ⟨rfl,rfl⟩ (by kernel_rfl) rfl
   (fun f fn hf hfn => by
     obtain rfl : f = 13 := Option.some.inj ((show Tryd.prog.funcNamed "probecard/probecardlaw39.MarchrunsLonger" = some 13 by kernel_rfl).symm.trans hf) |>.symm
     obtain rfl : fn = Tryd.f13 := (Option.some.inj (Tryd.func13.symm.trans hfn)).symm
     exact ⟨by kernel_rfl,fun j t ht => by
       have ht := List.mem_of_getElem? (l := Tryd.f13.params.toList) (by simpa using ht)
       rw [Tryd.params13] at ht
       simp at ht
       rcases ht with rfl | rfl <;> exact (show Tryd.prog.wantsStandIn _ = false by kernel_rfl)⟩)
   (by kernel_rfl)
end Go.Proofs.YtcnlccpihknehaaDoor
