/-
  MarchesNamed answers true for every input, leaves the input as it is, and never panics. The one condition: the variable marches.table holds what the program lays in it.
-/
import Derived.Test.YtcnlccpihknehaaDoorMT4QMS1
import Derived.Test.YtcnlccpihknehaaDoorMT4QNQ5
set_option linter.all false
namespace Go.Proofs.YtcnlccpihknehaaDoor
open Go.ChangeShapes Go.WideShapes Go.ChangeAt Go.RowKit
open Go.Abs
theorem Tryd.params4 : Tryd.f4.params = #[9] := by kernel_rfl
set_option maxRecDepth 100000 in
theorem marchesNamed_lifted (os : Os) (started : os.Started) (H : Type) (enc : TypeId × Value → H) :
   ReturnsInHanded {} Tryd.checked os 4 .any (fun w args => (Rows.marchesNamedSpec.pre enc Tryd.prog Tryd.f4 Rows.marchesNamedRow.domain false w args ∧ laidMet Tryd.prog laidV w) ∧ sizedMet enc Tryd.prog Tryd.f4 (OpenSpec.ofChange Rows.marchesNamedSpec) false w args)
     (Rows.marchesNamedSpec.post enc Tryd.prog Tryd.f4 false true false false) := by
 refine returnsInHanded_of_change_and (C := Tryd.checked) (X := fun w _ => laidMet Tryd.prog laidV w) (fun _ _ _ hh h => h.of_heap hh) Tryd.own started (by kernel_rfl) Tryd.func4
   (ChangeSpec.witness_at (enc := enc) (C := Tryd.checked) (os := os) (X := fun w _ => laidMet Tryd.prog laidV w) false (laidWorld os) #[.string .empty] 8 rfl (by kernel_rfl) (by kernel_rfl) (by kernel_rfl) (by kernel_rfl) (by kernel_rfl) (laidWorld_met os _)) ?_
 intro W base args ds gs before hval0 hW hcnd _ hL _
 have hval : ∀ (j : Nat) t v,Tryd.f4.params[j]? = some t → args[j]? = some v → Value.okWide Tryd.prog W .any base t v := hval0
 have hW' := hW
 obtain ⟨p,q,hA0,hV,rfl,hfz,hnd⟩ := hW
 have hA : DataW.TrodAll enc Tryd.prog W 0 (fun _ => true) true Tryd.f4.params.toList args.toList ds p := hA0
 rw [Tryd.params4] at hA hval
 obtain ⟨v0,d0,rfl,rfl,h0⟩ := trodAll_one hA
 obtain ⟨x0,hx0,tr0,e0,g0⟩ := arg_one strS strO (hval 0 9 v0 rfl rfl) h0
 have f0 : tr0 = T.str x0 := (List.cons.inj e0).1.symm
 rw [f0] at g0
 have hargs := argsR1 g0
 have hr := M4.known.ok ⟨x0⟩ true (Mr.run4 x0)
 refine (fn_calls hr hargs (gl_laid hL)).mono fun e W' ⟨he,_,hsame,hos,hout⟩ => ?_
 subst he
 refine ⟨_,rfl,post_true Tryd.laidOut ?_ rfl rfl Tryd.underlying4 ?_ hW' hsame hos hout⟩
 · intro t ht
   rw [Tryd.params4] at ht
   simp at ht
   rcases ht with rfl <;> exact ⟨by kernel_rfl,of_decide_eq_true (by kernel_rfl)⟩
 · rfl
theorem marchesNamed_row : Rows.MarchesNamedSaid :=
 OpenClaim.holds_of_wide 4 Tryd.f4 rfl rfl rfl rfl rfl rfl rfl ⟨rfl,rfl,rfl,rfl,rfl⟩ rfl rfl rfl rfl rfl (by kernel_rfl) Tryd.func4 (by kernel_rfl)
   (of_decide_eq_true (by kernel_rfl)) (by unfold Func.isWrapper; first | (rw [if_pos (by decide +kernel)]; kernel_rfl) | (rw [if_neg (by decide +kernel)]; exact ⟨rfl,rfl⟩))
   (fun os started H enc _ => marchesNamed_lifted os started H enc)
theorem marchesNamed_holds : Rows.MarchesNamedCardSaid :=
 Claim7.holds_tied_plain_at .later [] [.data] true (true,"9eedd2fb0f1c818c4b102ba4084a6f6c28466fcdb5bd843029b8b1e63e950f85") false
   marchesNamed_row (fun _ h => by cases h) (by kernel_rfl) (fun _ h => by cases h) marchesNamed_row_tie rfl ⟨rfl,rfl⟩ (by kernel_rfl) rfl
   (fun f fn hf hfn => by
     obtain rfl : f = 4 := Option.some.inj ((show Tryd.prog.funcNamed "probecard/probecardlaw37.MarchesNamed" = some 4 by kernel_rfl).symm.trans hf) |>.symm
     obtain rfl : fn = Tryd.f4 := (Option.some.inj (Tryd.func4.symm.trans hfn)).symm
     exact ⟨by kernel_rfl,fun j t ht => by
       have ht := List.mem_of_getElem? (l := Tryd.f4.params.toList) (by simpa using ht)
       rw [Tryd.params4] at ht
       simp at ht
       rcases ht with rfl <;> exact (show Tryd.prog.wantsStandIn _ = false by kernel_rfl)⟩)
   (by kernel_rfl)
end Go.Proofs.YtcnlccpihknehaaDoor
