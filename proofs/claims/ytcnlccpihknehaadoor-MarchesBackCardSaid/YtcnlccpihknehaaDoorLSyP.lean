/-
  A general library: a contract of the given library's becomes a contract on trees.
-/
import Derived.Test.YtcnlccpihknehaaDoorLSyJ
import Derived.Below
set_option linter.all false
namespace Go.Abs
variable [Gl]
open Go.RowKit
theorem HR.empty {ι : Map} {w : World} (h : HR ι [] w) (id : Nat) : ι id = none := by
 cases h1 : ι id with
 | none => rfl
 | some s => obtain ⟨o,h2,_⟩ := h.obj id s h1; cases h2
theorem fn_extH {P : Program} {f : FuncId} {args : List AV} {v : AV} {σ : Heap} (hc : callable P f)
   (h : ∀ ι w cargs,HR ι σ w → argsR ι w args cargs → ∃ cv,(∀ w',Step ι σ w ι σ w' → VR ι w' v cv) ∧ Calls P f cargs w fun e w' => e = .returned cv ∧ Below w.heap.size w w') :
   FnOk P f args σ fun u τ => u = v ∧ τ = σ := by
 refine ⟨hc,fun ι w cargs _ hH ha => ?_⟩
 obtain ⟨cv,hv,hcall⟩ := h ι w cargs hH ha
 refine CallsIn.mono (callsIn_wide.2 hcall) fun e w' ⟨he,hb⟩ => ?_
 have hs : Step ι σ w ι σ w' := ⟨Nat.le_refl _,hb.size,hb.os,hb.output,fun id s h1 => ⟨s,h1,Nat.le_refl _,fun _ => rfl⟩,fun id _ h1 => h1,fun id s l h1 h2 => .inr ⟨id,s,l,h1,h2,rfl⟩,rfl,rfl,fun b hr => hb.block b (hH.resRow b hr).lt,fun b h1 _ => hb.block b h1⟩
 have hblk : ∀ id s l,ι id = some s → s.loc = some l → w'.heap[l.blk]? = w.heap[l.blk]? := fun id s l h1 h2 => by
   obtain ⟨o,_,_,_,h3⟩ := hH.obj id s h1
   rw [h2] at h3
   obtain ⟨⟨c,e,h4,_⟩,_⟩ := h3
   exact hb.block _ (Array.getElem?_eq_some_iff.1 h4).1
 refine ⟨v,σ,ι,cv,he,⟨rfl,rfl⟩,hv w' hs,⟨fun id s h1 => ?_,hH.inj,fun b hr => ?_,hH.resNo⟩,hs⟩
 · obtain ⟨o,h2,h3⟩ := hH.obj id s h1
   exact ⟨o,h2,h3.congr hs fun l hl => hblk id s l h1 hl⟩
 · obtain ⟨c,e,fr,h2⟩ := hH.resRow b hr
   exact ⟨c,e,fr,(hb.block b (Array.getElem?_eq_some_iff.1 h2).1).trans h2⟩
theorem fn_ext {P : Program} {f : FuncId} {args : List AV} {v : AV} (hc : callable P f)
   (h : ∀ ι w cargs,HR ι [] w → argsR ι w args cargs → ∃ cv,(∀ w',VR ι w' v cv) ∧ Calls P f cargs w fun e w' => e = .returned cv ∧ Below w.heap.size w w') :
   FnOk P f args [] fun u τ => u = v ∧ τ = [] :=
 fn_extH hc fun ι w cargs hH ha => let ⟨cv,h1,h2⟩ := h ι w cargs hH ha; ⟨cv,fun w' _ => h1 w',h2⟩
theorem sl_read {ι : Map} {σ : Heap} {w : World} (hH : HR ι σ w) {r : Ref} {len : Nat} {cap : Option Nat} {o : Obj} {v : Value} (ho : σ[r.id]? = some o) (he : o.ep = r.ep) (h : CR ι w (.sl r len cap) v) :
   ∃ a c,v = .slice a len c ∧ (len = 0 ∨ ∃ b off,a = some ⟨b,off,none⟩ ∧ b < w.heap.size ∧ len ≤ c ∧ ∀ i (hi : r.off + i < o.cs.length),∃ u,w.cell? ⟨b,off + i,none⟩ = some u ∧ CR ι w o.cs[r.off + i] u) := by
 obtain ⟨a,c,rfl,_,s,h1,h2,h3⟩ := h
 obtain ⟨o',h4,h5,h6,h7⟩ := hH.obj _ s h1
 rw [ho] at h4
 cases h4
 obtain ⟨h8,h9,h10⟩ := h3 (he.symm.trans h6)
 refine ⟨a,c,rfl,?_⟩
 cases hl : s.loc with
 | none => rw [hl] at h10; exact .inl h10.1
 | some l =>
   rw [hl] at h7 h10
   obtain ⟨⟨cells,elem,h11,_⟩,_,h12⟩ := h7
   refine .inr ⟨l.blk,l.sh + r.off,h10.1,(Array.getElem?_eq_some_iff.1 h11).1,h8,fun i hi => ?_⟩
   obtain ⟨u,h13,h14⟩ := h12 (r.off + i) hi
   exact ⟨u,by rw [Nat.add_assoc]; exact h13,h14⟩
theorem strs_tree {U : Nat → Prop} {w : World} {l : List (List UInt8)} {cap : Option Nat} {v : Value} (h : TR U w (.imm (l.map T.str) l.length cap) v) :
   (l = [] ∧ ∃ a c,v = .slice a 0 c) ∨ ∃ b off c,v = .slice (some ⟨b,off,none⟩) l.length c ∧ isRow w b ∧ l.length ≤ c ∧ ∀ (j : Nat) x,(l.map fun s => (⟨s.toArray⟩ : ByteArray))[j]? = some x → w.cell? ⟨b,off + j,none⟩ = some (.string x) := by
 generalize ht : T.imm (l.map T.str) l.length cap = t at h
 cases h with
 | imm0 cap' a c hc =>
   injection ht with h1 h2
   exact .inl ⟨List.length_eq_zero_iff.1 h2,a,c,rfl⟩
 | imm cs len cap' b off c f hb hr hc hle hcell ht' =>
   injection ht with h1 h2
   subst h1; subst h2
   refine .inr ⟨b,off,c,rfl,hr,hle,fun j x hx => ?_⟩
   rw [List.getElem?_map,Option.map_eq_some_iff] at hx
   obtain ⟨s,h3,rfl⟩ := hx
   obtain ⟨hj,h4⟩ := List.getElem?_eq_some_iff.1 h3
   have hj' : j < (l.map T.str).length := by simpa using hj
   rw [hcell j hj']
   have h5 := ht' j hj'
   simp only [List.getElem_map,h4] at h5
   generalize f j = u at h5 ⊢
   cases h5
   rfl
 | _ => cases ht
end Go.Abs
