/-
  MarchrunsRun answers true for every input, leaves the input as it is, and never panics. The one condition: the variable marches.table holds what the program lays in it.
-/
import Derived.Test.YtcnlccpihknehaaDoorMR3QMR1
set_option linter.all false
namespace Go.Proofs.YtcnlccpihknehaaDoor
open Go.ChangeShapes Go.WideShapes Go.ChangeAt Go.RowKit
open Go.Abs
theorem Tryd.params8 : Tryd.f8.params = #[25,60,4] := by kernel_rfl
set_option maxRecDepth 100000 in
theorem marchrunsRun_lifted (os : Os) (started : os.Started) (H : Type) (enc : TypeId × Value → H) :
   ReturnsInHanded {} Tryd.checked os 8 .any (fun w args => (Rows.marchrunsRunSpec.pre enc Tryd.prog Tryd.f8 Rows.marchrunsRunRow.domain false w args ∧ laidMet Tryd.prog laidV w) ∧ sizedMet enc Tryd.prog Tryd.f8 (OpenSpec.ofChange Rows.marchrunsRunSpec) false w args)
     (Rows.marchrunsRunSpec.post enc Tryd.prog Tryd.f8 false true false false) := by
 refine returnsInHanded_of_change_and (C := Tryd.checked) (X := fun w _ => laidMet Tryd.prog laidV w) (fun _ _ _ hh h => h.of_heap hh) Tryd.own started (by kernel_rfl) Tryd.func8
   (ChangeSpec.witness_at (enc := enc) (C := Tryd.checked) (os := os) (X := fun w _ => laidMet Tryd.prog laidV w) false (laidWorld os) #[.agg #[.slice none 0 0,.slice none 0 0],.agg #[.int .u8 0,.int .u16 0,.int .u8 0,.int .u8 0,.int .u8 0],.bool false] 8 rfl (by kernel_rfl) (by kernel_rfl) (by kernel_rfl) (by kernel_rfl) (by kernel_rfl) (laidWorld_met os _)) ?_
 intro W base args ds gs before hval0 hW hcnd _ hL _
 have hval : ∀ (j : Nat) t v,Tryd.f8.params[j]? = some t → args[j]? = some v → Value.okWide Tryd.prog W .any base t v := hval0
 have hW' := hW
 obtain ⟨p,q,hA0,hV,rfl,hfz,hnd⟩ := hW
 have hA : DataW.TrodAll enc Tryd.prog W 0 (fun _ => true) true Tryd.f8.params.toList args.toList ds p := hA0
 rw [Tryd.params8] at hA hval
 obtain ⟨v0,v1,v2,d0,d1,d2,p0,p1,p2,rfl,rfl,rfl,h0,h1,h2⟩ := trodAll_three hA
 obtain ⟨x,hx,g0⟩ := arg_agg rawS rawO (hval 0 25 v0 rfl rfl) h0
 obtain ⟨y,hy,g1⟩ := arg_agg caseS caseO (hval 1 60 v1 rfl rfl) h1
 obtain ⟨z,hz,tr,h3,g2⟩ := arg_one boolS boolO (hval 2 4 v2 rfl rfl) h2
 have e : tr = T.bool z := (List.cons.inj h3).1.symm
 rw [e] at g2
 have hargs := argsR3 g0 g1 g2
 have hr := M8.known.ok ⟨x.1,x.2,y.1,y.2.1,y.2.2.1,y.2.2.2.1,y.2.2.2.2,z⟩ true (Mr.run8 (raw_ok hx) (wf_u8 hy.1) (wf_u8 hy.2.2.1) (wf_u8 hy.2.2.2.1) (wf_u8 hy.2.2.2.2) z)
 refine (fn_calls hr hargs (gl_laid hL)).mono fun e W' ⟨he,_,hsame,hos,hout⟩ => ?_
 subst he
 refine ⟨_,rfl,post_true Tryd.laidOut ?_ rfl rfl Tryd.underlying4 ?_ hW' hsame hos hout⟩
 · intro t ht
   rw [Tryd.params8] at ht
   simp at ht
   rcases ht with rfl | rfl | rfl <;> exact ⟨by kernel_rfl,of_decide_eq_true (by kernel_rfl)⟩
 · rfl
theorem marchrunsRun_row : Rows.MarchrunsRunSaid :=
 OpenClaim.holds_of_wide 8 Tryd.f8 rfl rfl rfl rfl rfl rfl rfl ⟨rfl,rfl,rfl,rfl,rfl⟩ rfl rfl rfl rfl rfl (by kernel_rfl) Tryd.func8 (by kernel_rfl)
   (of_decide_eq_true (by kernel_rfl)) (by unfold Func.isWrapper; first | (rw [if_pos (by decide +kernel)]; kernel_rfl) | (rw [if_neg (by decide +kernel)]; exact ⟨rfl,rfl⟩))
   (fun os started H enc _ => marchrunsRun_lifted os started H enc)
theorem marchrunsRun_holds : Rows.MarchrunsRunCardSaid :=
 Claim7.holds_tied_plain_at .later [] [.data] true (true,"9eedd2fb0f1c818c4b102ba4084a6f6c28466fcdb5bd843029b8b1e63e950f85") false
   marchrunsRun_row (fun _ h => by cases h) (by kernel_rfl) (fun _ h => by cases h) marchrunsRun_row_tie rfl ⟨rfl,rfl⟩ (by kernel_rfl) rfl
   (fun f fn hf hfn => by
     obtain rfl : f = 8 := Option.some.inj ((show Tryd.prog.funcNamed "probecard/probecardlaw39.MarchrunsRun" = some 8 by kernel_rfl).symm.trans hf) |>.symm
     obtain rfl : fn = Tryd.f8 := (Option.some.inj (Tryd.func8.symm.trans hfn)).symm
     exact ⟨by kernel_rfl,fun j t ht => by
       rw [Tryd.params8] at ht
       have h3 : t = 25 ∨ t = 60 ∨ t = 4 := by
         rcases j with _ | _ | _ | j
         · simp at ht; exact .inl ht.symm
         · simp at ht; exact .inr (.inl ht.symm)
         · simp at ht; exact .inr (.inr ht.symm)
         · simp at ht
       rcases h3 with rfl | rfl | rfl
       · exact (show Tryd.prog.wantsStandIn 25 = false by kernel_rfl)
       · exact (show Tryd.prog.wantsStandIn 60 = false by kernel_rfl)
       · exact (show Tryd.prog.wantsStandIn 4 = false by kernel_rfl)⟩)
   (by kernel_rfl)
end Go.Proofs.YtcnlccpihknehaaDoor
