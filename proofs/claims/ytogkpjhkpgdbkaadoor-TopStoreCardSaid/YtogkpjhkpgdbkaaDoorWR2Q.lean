/-
  TopStore answers true for every input, leaves the input as it is, and never panics. The one condition: the variable logic.fanins holds what the program lays in it.
-/
import Derived.Test.YtogkpjhkpgdbkaaDoorWR2QWR1
set_option linter.all false
namespace Go.Proofs.YtogkpjhkpgdbkaaDoor
open Go.ChangeShapes Go.WideShapes Go.ChangeAt Go.RowKit
open Go.Abs
theorem Tryd.params3 : Tryd.f3.params = #[22,23] := by kernel_rfl
set_option maxRecDepth 100000 in
theorem topStore_lifted (os : Os) (started : os.Started) (H : Type) (enc : TypeId × Value → H) :
  ReturnsInHanded {} Tryd.checked os 3 .any (fun w args => (Rows.topStoreSpec.pre enc Tryd.prog Tryd.f3 Rows.topStoreRow.domain false w args ∧ laidMet Tryd.prog laidV w) ∧ sizedMet enc Tryd.prog Tryd.f3 (OpenSpec.ofChange Rows.topStoreSpec) false w args)
   (Rows.topStoreSpec.post enc Tryd.prog Tryd.f3 false true false false) := by
 refine returnsInHanded_of_change_and (C := Tryd.checked) (X := fun w _ => laidMet Tryd.prog laidV w) (fun _ _ _ hh h => h.of_heap hh) Tryd.own started (by kernel_rfl) Tryd.func3
  (ChangeSpec.witness_at (enc := enc) (C := Tryd.checked) (os := os) (X := fun w _ => laidMet Tryd.prog laidV w) false (laidWorld os) #[.int .u16 0,.slice none 0 0] 8 rfl (by kernel_rfl) (by kernel_rfl) (by kernel_rfl) (by kernel_rfl) (by kernel_rfl) (laidWorld_met os _)) ?_
 intro W base args ds gs before hval0 hW hcnd _ hL _
 have hval : ∀ (j : Nat) t v,Tryd.f3.params[j]? = some t → args[j]? = some v → Value.okWide Tryd.prog W .any base t v := hval0
 have hW' := hW
 obtain ⟨p,q,hA0,hV,rfl,hfz,hnd⟩ := hW
 have hA : DataW.TrodAll enc Tryd.prog W 0 (fun _ => true) true Tryd.f3.params.toList args.toList ds p := hA0
 rw [Tryd.params3] at hA hval
 obtain ⟨v0,v1,d0,d1,p0,p1,rfl,rfl,rfl,h0,h1⟩ := trodAll_two hA
 obtain ⟨x0,hx0,tr0,e0,g0⟩ := arg_one wordS wordO (hval 0 22 v0 rfl rfl) h0
 have f0 : tr0 = T.int .u16 x0 := (List.cons.inj e0).1.symm
 rw [f0] at g0
 obtain ⟨x1,hx1,tr1,e1,g1⟩ := arg_one actsS actsO (hval 1 23 v1 rfl rfl) h1
 have f1 : tr1 = T.imm (x1.flatMap (Ly.pair .bool (.pair (.int .u8) (.int .u8))).trees) x1.length none := (List.cons.inj e1).1.symm
 rw [f1] at g1
 have hargs := argsR2 g0 g1
 have hr := M3.known.ok ⟨x0,x1⟩ true (To.run3 (fun p hp => ⟨(wf_u8 (hx1.2 p hp).2.1).1,(wf_u8 (hx1.2 p hp).2.2).1⟩))
 refine (fn_calls hr hargs (gl_laid hL)).mono fun e W' ⟨he,_,hsame,hos,hout⟩ => ?_
 subst he
 refine ⟨_,rfl,post_true Tryd.laidOut ?_ rfl rfl Tryd.underlying4 ?_ hW' hsame hos hout⟩
 ·intro t ht
  rw [Tryd.params3] at ht
  simp at ht
  rcases ht with rfl | rfl <;> exact ⟨by kernel_rfl,of_decide_eq_true (by kernel_rfl)⟩
 ·rfl
theorem topStore_row : Rows.TopStoreSaid :=
 OpenClaim.holds_of_wide 3 Tryd.f3 rfl rfl rfl rfl rfl rfl rfl ⟨rfl,rfl,rfl,rfl,rfl⟩ rfl rfl rfl rfl rfl (by kernel_rfl) Tryd.func3 (by kernel_rfl)
  (of_decide_eq_true (by kernel_rfl)) (by unfold Func.isWrapper; first | (rw [if_pos (by decide +kernel)]; kernel_rfl) | (rw [if_neg (by decide +kernel)]; exact ⟨rfl,rfl⟩))
  (fun os started H enc _ => topStore_lifted os started H enc)
theorem topStore_holds : Rows.TopStoreCardSaid :=
 Claim7.holds_tied_plain_at .later [] [.data] true (true,"f9c4c7dacb597d8c83dcf9733cdc601ec40b69e8b8772b3191ece5665b96827b") false
  topStore_row (fun _ h => by cases h) (by kernel_rfl) (fun _ h => by cases h) topStore_row_tie rfl ⟨rfl,rfl⟩ (by kernel_rfl) rfl
  (fun f fn hf hfn => by
   obtain rfl : f = 3 := Option.some.inj ((show Tryd.prog.funcNamed "probecard/probecardtop.TopStore" = some 3 by kernel_rfl).symm.trans hf) |>.symm
   obtain rfl : fn = Tryd.f3 := (Option.some.inj (Tryd.func3.symm.trans hfn)).symm
   exact ⟨by kernel_rfl,fun j t ht => by
    have ht := List.mem_of_getElem? (l := Tryd.f3.params.toList) (by simpa using ht)
    rw [Tryd.params3] at ht
    simp at ht
    rcases ht with rfl | rfl <;> exact (show Tryd.prog.wantsStandIn _ = false by kernel_rfl)⟩)
  (by kernel_rfl)
end Go.Proofs.YtogkpjhkpgdbkaaDoor
