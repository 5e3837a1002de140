/- A part of the proof. -/
import Derived.Test.YtpbplpgfloaaiaaGreatDoorXS2QMc
set_option linter.all false
namespace Go.Abs
variable [Gl]
section
variable {P:Program}
def Qd:Map:=⟨λ_=>none,λ_=>False,⟨undef,λ_=>undef,0,default⟩⟩
def noMap_HR(w:World):HR Qd [] w where
 obj:=λid s h=>by simp[Qd]at h
 inj:=λid id' s s' l l' h=>by simp[Qd]at h
 resRow:=λb h=>h.elim
 resNo:=λid s l h=>by simp[Qd]at h
def Jx(b:Nat):Qd.un b:=by
 rintro(⟨id,s,l,h,_⟩|h)
 ·simp[Qd]at h
 ·exact h
end
end Go.Abs
