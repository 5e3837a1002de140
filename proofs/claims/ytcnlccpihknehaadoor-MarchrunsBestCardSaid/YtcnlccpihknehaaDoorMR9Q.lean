/-
  MarchrunsBest answers true for every input, leaves the input as it is, and never panics. The one condition: the variable marches.table holds what the program lays in it.
-/
import Derived.Test.YtcnlccpihknehaaDoorMR9QMR1
import Derived.Test.YtcnlccpihknehaaDoorMR9QMR2
import Derived.Test.YtcnlccpihknehaaDoorMR9QMPI
set_option linter.all false
namespace Go.Proofs.YtcnlccpihknehaaDoor
open Go.ChangeShapes Go.WideShapes Go.ChangeAt Go.RowKit
open Go.Abs
theorem Tryd.params9 : Tryd.f9.params = #[75,5,22] := by kernel_rfl
set_option maxRecDepth 100000 in
theorem marchrunsBest_lifted (os : Os) (started : os.Started) (H : Type) (enc : TypeId × Value → H) :
   ReturnsInHanded {} Tryd.checked os 9 .any (fun w args => (Rows.marchrunsBestSpec.pre enc Tryd.prog Tryd.f9 Rows.marchrunsBestRow.domain false w args ∧ laidMet Tryd.prog laidV w) ∧ sizedMet enc Tryd.prog Tryd.f9 (OpenSpec.ofChange Rows.marchrunsBestSpec) false w args)
     (Rows.marchrunsBestSpec.post enc Tryd.prog Tryd.f9 false true false false) := by
 refine returnsInHanded_of_change_and (C := Tryd.checked) (X := fun w _ => laidMet Tryd.prog laidV w) (fun _ _ _ hh h => h.of_heap hh) Tryd.own started (by kernel_rfl) Tryd.func9
   (ChangeSpec.witness_at (enc := enc) (C := Tryd.checked) (os := os) (X := fun w _ => laidMet Tryd.prog laidV w) false (laidWorld os) #[.slice none 0 0,.int .u8 0,.slice none 0 0] 8 rfl (by kernel_rfl) (by kernel_rfl) (by kernel_rfl) (by kernel_rfl) (by kernel_rfl) (laidWorld_met os _)) ?_
 intro W base args ds gs before hval0 hW hcnd _ hL _
 have hval : ∀ (j : Nat) t v,Tryd.f9.params[j]? = some t → args[j]? = some v → Value.okWide Tryd.prog W .any base t v := hval0
 have hW' := hW
 obtain ⟨p,q,hA0,hV,rfl,hfz,hnd⟩ := hW
 have hA : DataW.TrodAll enc Tryd.prog W 0 (fun _ => true) true Tryd.f9.params.toList args.toList ds p := hA0
 rw [Tryd.params9] at hA hval
 obtain ⟨v0,v1,v2,d0,d1,d2,p0,p1,p2,rfl,rfl,rfl,h0,h1,h2⟩ := trodAll_three hA
 obtain ⟨x0,hx0,tr0,e0,g0⟩ := arg_one rawsS rawsO (hval 0 75 v0 rfl rfl) h0
 have f0 : tr0 = T.imm (x0.flatMap rawL.trees) x0.length none := (List.cons.inj e0).1.symm
 rw [f0] at g0
 obtain ⟨x1,hx1,tr1,e1,g1⟩ := arg_one byteS byteO (hval 1 5 v1 rfl rfl) h1
 have f1 : tr1 = T.int .u8 x1 := (List.cons.inj e1).1.symm
 rw [f1] at g1
 obtain ⟨x2,hx2,tr2,e2,g2⟩ := arg_one bytesS bytesO (hval 2 22 v2 rfl rfl) h2
 have f2 : tr2 = T.imm (x2.flatMap (Ly.int .u8).trees) x2.length none := (List.cons.inj e2).1.symm
 rw [f2] at g2
 have hargs := argsR3 g0 g1 g2
 have hr := M9.known.ok ⟨x0,x1,x2⟩ true (Mr.run9 (fun r hr => raw_ok (hx0.2 r hr)) (fun w hw => wf_u8 (hx2.2 w hw)))
 refine (fn_calls hr hargs (gl_laid hL)).mono fun e W' ⟨he,_,hsame,hos,hout⟩ => ?_
 subst he
 refine ⟨_,rfl,post_true Tryd.laidOut ?_ rfl rfl Tryd.underlying4 ?_ hW' hsame hos hout⟩
 · intro t ht
   rw [Tryd.params9] at ht
   simp at ht
   rcases ht with rfl | rfl | rfl <;> exact ⟨by kernel_rfl,of_decide_eq_true (by kernel_rfl)⟩
 · rfl
theorem marchrunsBest_row : Rows.MarchrunsBestSaid :=
 OpenClaim.holds_of_wide 9 Tryd.f9 rfl rfl rfl rfl rfl rfl rfl ⟨rfl,rfl,rfl,rfl,rfl⟩ rfl rfl rfl rfl rfl (by kernel_rfl) Tryd.func9 (by kernel_rfl)
   (of_decide_eq_true (by kernel_rfl)) (by unfold Func.isWrapper; first | (rw [if_pos (by decide +kernel)]; kernel_rfl) | (rw [if_neg (by decide +kernel)]; exact ⟨rfl,rfl⟩))
   (fun os started H enc _ => marchrunsBest_lifted os started H enc)
theorem marchrunsBest_holds : Rows.MarchrunsBestCardSaid :=
 Claim7.holds_tied_plain_at .later [] [.data] true (true,"9eedd2fb0f1c818c4b102ba4084a6f6c28466fcdb5bd843029b8b1e63e950f85") false
   marchrunsBest_row (fun _ h => by cases h) (by kernel_rfl) (fun _ h => by cases h) marchrunsBest_row_tie rfl ⟨rfl,rfl⟩ (by kernel_rfl) rfl
   (fun f fn hf hfn => by
     obtain rfl : f = 9 := Option.some.inj ((show Tryd.prog.funcNamed "probecard/probecardlaw39.MarchrunsBest" = some 9 by kernel_rfl).symm.trans hf) |>.symm
     obtain rfl : fn = Tryd.f9 := (Option.some.inj (Tryd.func9.symm.trans hfn)).symm
     exact ⟨by kernel_rfl,fun j t ht => by
       have ht := List.mem_of_getElem? (l := Tryd.f9.params.toList) (by simpa using ht)
       rw [Tryd.params9] at ht
       simp at ht
       rcases ht with rfl | rfl | rfl <;> exact (show Tryd.prog.wantsStandIn _ = false by kernel_rfl)⟩)
   (by kernel_rfl)
end Go.Proofs.YtcnlccpihknehaaDoor
