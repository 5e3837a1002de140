/-
  A general library: from a contract to the call of a row.
-/
import Derived.Test.YthchfbanjeiieaaNR8QMc
set_option linter.all false
namespace Go.Abs
variable [Gl]
section
variable {P : Program}
def noMap : Map := ⟨fun _ => none,fun _ => False,⟨undef,fun _ => undef,0,default⟩⟩
theorem noMap_HR (w : World) : HR noMap [] w where
 obj := fun id s h => by simp [noMap] at h
 inj := fun id id' s s' l l' h => by simp [noMap] at h
 resRow := fun b h => h.elim
 resNo := fun id s l h => by simp [noMap] at h
theorem noMap_un (b : Nat) : noMap.un b := by
 rintro (⟨id,s,l,h,_⟩ | h)
 ·simp [noMap] at h
 ·exact h
end
end Go.Abs
