/-
  MarchesBack answers true for every input, leaves the input as it is, and never panics. The one condition: the variable marches.table holds what the program lays in it.
-/
import Derived.Test.YtcnlccpihknehaaDoorMT6QMS1
import Derived.Test.YtcnlccpihknehaaDoorMT6QNQ7
set_option linter.all false
namespace Go.Proofs.YtcnlccpihknehaaDoor
open Go.ChangeShapes Go.WideShapes Go.ChangeAt Go.RowKit
open Go.Abs
theorem Tryd.params6 : Tryd.f6.params = #[25,9] := by kernel_rfl
set_option maxRecDepth 100000 in
theorem marchesBack_lifted (os : Os) (started : os.Started) (H : Type) (enc : TypeId × Value → H) :
   ReturnsInHanded {} Tryd.checked os 6 .any (fun w args => (Rows.marchesBackSpec.pre enc Tryd.prog Tryd.f6 Rows.marchesBackRow.domain false w args ∧ laidMet Tryd.prog laidV w) ∧ sizedMet enc Tryd.prog Tryd.f6 (OpenSpec.ofChange Rows.marchesBackSpec) false w args)
     (Rows.marchesBackSpec.post enc Tryd.prog Tryd.f6 false true false false) := by
 refine returnsInHanded_of_change_and (C := Tryd.checked) (X := fun w _ => laidMet Tryd.prog laidV w) (fun _ _ _ hh h => h.of_heap hh) Tryd.own started (by kernel_rfl) Tryd.func6
   (ChangeSpec.witness_at (enc := enc) (C := Tryd.checked) (os := os) (X := fun w _ => laidMet Tryd.prog laidV w) false (laidWorld os) #[.agg #[.slice none 0 0,.slice none 0 0],.string .empty] 8 rfl (by kernel_rfl) (by kernel_rfl) (by kernel_rfl) (by kernel_rfl) (by kernel_rfl) (laidWorld_met os _)) ?_
 intro W base args ds gs before hval0 hW hcnd _ hL _
 have hval : ∀ (j : Nat) t v,Tryd.f6.params[j]? = some t → args[j]? = some v → Value.okWide Tryd.prog W .any base t v := hval0
 have hW' := hW
 obtain ⟨p,q,hA0,hV,rfl,hfz,hnd⟩ := hW
 have hA : DataW.TrodAll enc Tryd.prog W 0 (fun _ => true) true Tryd.f6.params.toList args.toList ds p := hA0
 rw [Tryd.params6] at hA hval
 obtain ⟨v0,v1,d0,d1,p0,p1,rfl,rfl,rfl,h0,h1⟩ := trodAll_two hA
 obtain ⟨x0,hx0,g0⟩ := arg_agg rawS rawO (hval 0 25 v0 rfl rfl) h0
 obtain ⟨x1,hx1,tr1,e1,g1⟩ := arg_one strS strO (hval 1 9 v1 rfl rfl) h1
 have f1 : tr1 = T.str x1 := (List.cons.inj e1).1.symm
 rw [f1] at g1
 have hargs := argsR2 g0 g1
 have hr := M6.known.ok ⟨x0.1,x0.2,x1⟩ true (Mr.run6 (raw_ok hx0) x1)
 refine (fn_calls hr hargs (gl_laid hL)).mono fun e W' ⟨he,_,hsame,hos,hout⟩ => ?_
 subst he
 refine ⟨_,rfl,post_true Tryd.laidOut ?_ rfl rfl Tryd.underlying4 ?_ hW' hsame hos hout⟩
 · intro t ht
   rw [Tryd.params6] at ht
   simp at ht
   rcases ht with rfl | rfl <;> exact ⟨by kernel_rfl,of_decide_eq_true (by kernel_rfl)⟩
 · rfl
theorem marchesBack_row : Rows.MarchesBackSaid :=
 OpenClaim.holds_of_wide 6 Tryd.f6 rfl rfl rfl rfl rfl rfl rfl ⟨rfl,rfl,rfl,rfl,rfl⟩ rfl rfl rfl rfl rfl (by kernel_rfl) Tryd.func6 (by kernel_rfl)
   (of_decide_eq_true (by kernel_rfl)) (by unfold Func.isWrapper; first | (rw [if_pos (by decide +kernel)]; kernel_rfl) | (rw [if_neg (by decide +kernel)]; exact ⟨rfl,rfl⟩))
   (fun os started H enc _ => marchesBack_lifted os started H enc)
theorem marchesBack_holds : Rows.MarchesBackCardSaid :=
 Claim7.holds_tied_plain_at .later [] [.data] true (true,"9eedd2fb0f1c818c4b102ba4084a6f6c28466fcdb5bd843029b8b1e63e950f85") false
   marchesBack_row (fun _ h => by cases h) (by kernel_rfl) (fun _ h => by cases h) marchesBack_row_tie rfl ⟨rfl,rfl⟩ (by kernel_rfl) rfl
   (fun f fn hf hfn => by
     obtain rfl : f = 6 := Option.some.inj ((show Tryd.prog.funcNamed "probecard/probecardlaw37.MarchesBack" = some 6 by kernel_rfl).symm.trans hf) |>.symm
     obtain rfl : fn = Tryd.f6 := (Option.some.inj (Tryd.func6.symm.trans hfn)).symm
     exact ⟨by kernel_rfl,fun j t ht => by
       have ht := List.mem_of_getElem? (l := Tryd.f6.params.toList) (by simpa using ht)
       rw [Tryd.params6] at ht
       simp at ht
       rcases ht with rfl | rfl <;> exact (show Tryd.prog.wantsStandIn _ = false by kernel_rfl)⟩)
   (by kernel_rfl)
end Go.Proofs.YtcnlccpihknehaaDoor
