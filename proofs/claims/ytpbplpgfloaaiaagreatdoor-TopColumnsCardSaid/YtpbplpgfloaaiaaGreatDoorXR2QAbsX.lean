/- A part of the proof. -/
import Derived.Test.YtpbplpgfloaaiaaGreatDoorXR2QMc
set_option linter.all false
namespace Go.Abs
variable [Gl]
section
variable {P:Program}
def QZ:Map:=⟨λ_=>none,λ_=>False,⟨undef,λ_=>undef,0,default⟩⟩
theorem UZ(w:World):HR QZ [] w where
 obj:=λid s h=>by simp[QZ]at h
 inj:=λid id' s s' l l' h=>by simp[QZ]at h
 resRow:=λb h=>h.elim
 resNo:=λid s l h=>by simp[QZ]at h
theorem JT(b:Nat):QZ.un b:=by
 rintro(⟨id,s,l,h,_⟩|h)
 ·simp[QZ]at h
 ·exact h
theorem fn_calls{f:FuncId}{ts:List AV}{args:Array Value}{W:World}(h:Qo P f ts [] λv S'=>v=aB true/\S'=[])(ha:Yn QZ W ts args)(hgl:Jc QZ W:=by intro _ _ _ h;exact nomatch h):
  Calls P f args W λe W'=>e=.returned (.bool true)/\W.heap.size<=W'.heap.size/\(∀b,b<W.heap.size->W'.heap[b]? =W.heap[b]?)/\W'.os=W.os/\W'.output=W.output:=by
 rw[<-CZ (n:=0)];refine BI (h.2 QZ W args hgl (UZ W) ha) ?_;rintro e w' ⟨v,S',I',cv,rfl,⟨rfl,rfl⟩,hv,_,hs⟩;have hv':TR I'.un w' (.bool true) cv:=hv;cases hv';exact⟨rfl,hs.size,λb hb=>hs.frame b hb (JT b),hs.os,hs.out⟩
end
end Go.Abs
