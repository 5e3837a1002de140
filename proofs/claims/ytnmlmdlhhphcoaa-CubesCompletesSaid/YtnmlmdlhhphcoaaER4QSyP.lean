/-
  A general library: a contract of the given library's becomes a contract on trees.
-/
import Derived.Test.YtnmlmdlhhphcoaaER4QSyJ
import Derived.Below
set_option linter.all false
namespace Go.Abs
variable [Gl]
open Go.RowKit
theorem HR.empty {ι : Map} {w : World} (h : HR ι [] w) (id : Nat) : ι id = none := by
 cases h1 : ι id with
 | none => rfl
 | some s => obtain ⟨o,h2,_⟩ := h.obj id s h1; cases h2
theorem fn_extH {P : Program} {f : FuncId} {args : List AV} {v : AV} {σ : Heap} (hc : callable P f)
  (h : ∀ ι w cargs,HR ι σ w → argsR ι w args cargs → ∃ cv,(∀ w',Step ι σ w ι σ w' → VR ι w' v cv) ∧ Calls P f cargs w fun e w' => e = .returned cv ∧ Below w.heap.size w w') :
  FnOk P f args σ fun u τ => u = v ∧ τ = σ := by
 refine ⟨hc,fun ι w cargs _ hH ha => ?_⟩
 obtain ⟨cv,hv,hcall⟩ := h ι w cargs hH ha
 refine CallsIn.mono (callsIn_wide.2 hcall) fun e w' ⟨he,hb⟩ => ?_
 have hs : Step ι σ w ι σ w' := ⟨Nat.le_refl _,hb.size,hb.os,hb.output,fun id s h1 => ⟨s,h1,Nat.le_refl _,fun _ => rfl⟩,fun id _ h1 => h1,fun id s l h1 h2 => .inr ⟨id,s,l,h1,h2,rfl⟩,rfl,rfl,fun b hr => hb.block b (hH.resRow b hr).lt,fun b h1 _ => hb.block b h1⟩
 have hblk : ∀ id s l,ι id = some s → s.loc = some l → w'.heap[l.blk]? = w.heap[l.blk]? := fun id s l h1 h2 => by
  obtain ⟨o,_,_,_,h3⟩ := hH.obj id s h1
  rw [h2] at h3
  obtain ⟨⟨c,e,h4,_⟩,_⟩ := h3
  exact hb.block _ (Array.getElem?_eq_some_iff.1 h4).1
 refine ⟨v,σ,ι,cv,he,⟨rfl,rfl⟩,hv w' hs,⟨fun id s h1 => ?_,hH.inj,fun b hr => ?_,hH.resNo⟩,hs⟩
 ·obtain ⟨o,h2,h3⟩ := hH.obj id s h1
  exact ⟨o,h2,h3.congr hs fun l hl => hblk id s l h1 hl⟩
 ·obtain ⟨c,e,fr,h2⟩ := hH.resRow b hr
  exact ⟨c,e,fr,(hb.block b (Array.getElem?_eq_some_iff.1 h2).1).trans h2⟩
theorem fn_ext {P : Program} {f : FuncId} {args : List AV} {v : AV} (hc : callable P f)
  (h : ∀ ι w cargs,HR ι [] w → argsR ι w args cargs → ∃ cv,(∀ w',VR ι w' v cv) ∧ Calls P f cargs w fun e w' => e = .returned cv ∧ Below w.heap.size w w') :
  FnOk P f args [] fun u τ => u = v ∧ τ = [] :=
 fn_extH hc fun ι w cargs hH ha => let ⟨cv,h1,h2⟩ := h ι w cargs hH ha; ⟨cv,fun w' _ => h1 w',h2⟩
end Go.Abs
