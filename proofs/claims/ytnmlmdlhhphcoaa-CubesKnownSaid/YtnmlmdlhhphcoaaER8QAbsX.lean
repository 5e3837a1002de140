/- A part of the proof. -/
import Derived.Test.YtnmlmdlhhphcoaaER8QMc
set_option linter.all false
namespace Go.Abs
variable [Gl]
section
variable {P:Program}
def JD:Map:=⟨λ_=>none,λ_=>False,⟨undef,λ_=>undef,0,default⟩⟩
theorem jO(w:World):HR JD [] w where
 obj:=λid s h=>by simp[JD]at h
 inj:=λid id' s s' l l' h=>by simp[JD]at h
 resRow:=λb h=>h.elim
 resNo:=λid s l h=>by simp[JD]at h
theorem Uj(b:Nat):JD.un b:=by
 rintro(⟨id,s,l,h,_⟩|h)
 ·simp[JD]at h
 ·exact h
theorem fn_calls{f:FuncId}{ts:List AV}{args:Array Value}{W:World}(h:Jl P f ts [] λv S'=>v=aB true/\S'=[])(ha:ZN JD W ts args)(hgl:GlOk JD W:=by intro _ _ _ h;exact nomatch h):
  Calls P f args W λe W'=>e=.returned (.bool true)/\W.heap.size<=W'.heap.size/\(∀b,b<W.heap.size->W'.heap[b]? =W.heap[b]?)/\W'.os=W.os/\W'.output=W.output:=by
 rw[<-callsIn_wide (n:=0)];refine CallsIn.mono (h.2 JD W args hgl (jO W) ha) ?_;rintro e w' ⟨v,S',I',cv,rfl,⟨rfl,rfl⟩,hv,_,hs⟩;have hv':TR I'.un w' (.bool true) cv:=hv;cases hv';exact⟨rfl,hs.size,λb hb=>hs.frame b hb (Uj b),hs.os,hs.out⟩
end
end Go.Abs
