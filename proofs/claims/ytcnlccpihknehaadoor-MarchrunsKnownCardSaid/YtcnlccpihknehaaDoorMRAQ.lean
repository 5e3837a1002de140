/-
  MarchrunsKnown answers true for every input, leaves the input as it is, and never panics. The one condition: the variable marches.table holds what the program lays in it.
-/
import Derived.Test.YtcnlccpihknehaaDoorMRAQMR1
import Derived.Test.YtcnlccpihknehaaDoorMRAQMPC
set_option linter.all false
namespace Go.Proofs.YtcnlccpihknehaaDoor
open Go.ChangeShapes Go.WideShapes Go.ChangeAt Go.RowKit
open Go.Abs
theorem Tryd.params10 : Tryd.f10.params = #[] := by kernel_rfl
set_option maxRecDepth 100000 in
theorem marchrunsKnown_lifted (os : Os) (started : os.Started) (H : Type) (enc : TypeId × Value → H) :
   ReturnsInHanded {} Tryd.checked os 10 .any (fun w args => (Rows.marchrunsKnownSpec.pre enc Tryd.prog Tryd.f10 Rows.marchrunsKnownRow.domain false w args ∧ laidMet Tryd.prog laidV w) ∧ sizedMet enc Tryd.prog Tryd.f10 (OpenSpec.ofChange Rows.marchrunsKnownSpec) false w args)
     (Rows.marchrunsKnownSpec.post enc Tryd.prog Tryd.f10 false true false false) := by
 refine returnsInHanded_of_change_and (C := Tryd.checked) (X := fun w _ => laidMet Tryd.prog laidV w) (fun _ _ _ hh h => h.of_heap hh) Tryd.own started (by kernel_rfl) Tryd.func10
   (ChangeSpec.witness_at (enc := enc) (C := Tryd.checked) (os := os) (X := fun w _ => laidMet Tryd.prog laidV w) false (laidWorld os) #[] 8 rfl (by kernel_rfl) (by kernel_rfl) (by kernel_rfl) (by kernel_rfl) (by kernel_rfl) (laidWorld_met os _)) ?_
 intro W base args ds gs before hval0 hW hcnd _ hL _
 have hval : ∀ (j : Nat) t v,Tryd.f10.params[j]? = some t → args[j]? = some v → Value.okWide Tryd.prog W .any base t v := hval0
 have hW' := hW
 obtain ⟨p,q,hA0,hV,rfl,hfz,hnd⟩ := hW
 have hA : DataW.TrodAll enc Tryd.prog W 0 (fun _ => true) true Tryd.f10.params.toList args.toList ds p := hA0
 rw [Tryd.params10] at hA hval
 obtain ⟨rfl,rfl,rfl⟩ := trodAll_none hA
 have hargs : argsR noMap W [] #[] := ⟨rfl,fun i hi => absurd hi (Nat.not_lt_zero i)⟩
 have hr := M10.known.ok () true (Mr.run10 )
 refine (fn_calls hr hargs (gl_laid hL)).mono fun e W' ⟨he,_,hsame,hos,hout⟩ => ?_
 subst he
 refine ⟨_,rfl,post_true Tryd.laidOut ?_ rfl rfl Tryd.underlying4 ?_ hW' hsame hos hout⟩
 · intro t ht
   rw [Tryd.params10] at ht
   simp at ht
 · rfl
theorem marchrunsKnown_row : Rows.MarchrunsKnownSaid :=
 OpenClaim.holds_of_wide 10 Tryd.f10 rfl rfl rfl rfl rfl rfl rfl ⟨rfl,rfl,rfl,rfl,rfl⟩ rfl rfl rfl rfl rfl (by kernel_rfl) Tryd.func10 (by kernel_rfl)
   (of_decide_eq_true (by kernel_rfl)) (by unfold Func.isWrapper; first | (rw [if_pos (by decide +kernel)]; kernel_rfl) | (rw [if_neg (by decide +kernel)]; exact ⟨rfl,rfl⟩))
   (fun os started H enc _ => marchrunsKnown_lifted os started H enc)
theorem marchrunsKnown_holds : Rows.MarchrunsKnownCardSaid :=
 Claim7.holds_tied_plain_at .later [] [.data] true (true,"9eedd2fb0f1c818c4b102ba4084a6f6c28466fcdb5bd843029b8b1e63e950f85") false
   marchrunsKnown_row (fun _ h => by cases h) (by kernel_rfl) (fun _ h => by cases h) marchrunsKnown_row_tie rfl ⟨rfl,rfl⟩ (by kernel_rfl) rfl
   (fun f fn hf hfn => by
     obtain rfl : f = 10 := Option.some.inj ((show Tryd.prog.funcNamed "probecard/probecardlaw39.MarchrunsKnown" = some 10 by kernel_rfl).symm.trans hf) |>.symm
     obtain rfl : fn = Tryd.f10 := (Option.some.inj (Tryd.func10.symm.trans hfn)).symm
     exact ⟨by kernel_rfl,fun j t ht => by
       rw [Tryd.params10] at ht
       simp at ht⟩)
   (by kernel_rfl)
end Go.Proofs.YtcnlccpihknehaaDoor
