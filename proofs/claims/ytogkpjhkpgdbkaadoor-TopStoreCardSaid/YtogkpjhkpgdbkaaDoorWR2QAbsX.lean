/-
  A general library: from a contract to the call of a row.
-/
import Derived.Test.YtogkpjhkpgdbkaaDoorWR2QMc
set_option linter.all false
namespace Go.Abs
variable [Gl]
section
variable {P : Program}
def noMap : Map := ⟨fun _ => none,fun _ => False,⟨undef,fun _ => undef,0,default⟩⟩
theorem noMap_HR (w : World) : HR noMap [] w where
 obj := fun id s h => by simp [noMap] at h
 inj := fun id id' s s' l l' h => by simp [noMap] at h
 resRow := fun b h => h.elim
 resNo := fun id s l h => by simp [noMap] at h
theorem noMap_un (b : Nat) : noMap.un b := by
 rintro (⟨id,s,l,h,_⟩ | h)
 ·simp [noMap] at h
 ·exact h
theorem fn_calls {f : FuncId} {ts : List AV} {args : Array Value} {W : World} (h : FnOk P f ts [] fun v σ' => v = aB true ∧ σ' = []) (ha : argsR noMap W ts args) (hgl : GlOk noMap W := by intro _ _ _ h; exact nomatch h) :
  Calls P f args W fun e W' => e = .returned (.bool true) ∧ W.heap.size ≤ W'.heap.size ∧ (∀ b,b < W.heap.size → W'.heap[b]? = W.heap[b]?) ∧ W'.os = W.os ∧ W'.output = W.output := by
 rw [← callsIn_wide (n := 0)]
 refine CallsIn.mono (h.2 noMap W args hgl (noMap_HR W) ha) ?_
 rintro e w' ⟨v,σ',ι',cv,rfl,⟨rfl,rfl⟩,hv,_,hs⟩
 have hv' : TR ι'.un w' (.bool true) cv := hv
 cases hv'
 exact ⟨rfl,hs.size,fun b hb => hs.frame b hb (noMap_un b),hs.os,hs.out⟩
end
end Go.Abs
