/- A part of the proof. -/
import Derived.Test.YtddaobhpffpmoaaSR7QMc
set_option linter.all false
namespace Go.Abs
variable [Gl]
section
variable {P:Program}
def Qf:Map:=⟨λ_=>none,λ_=>False,⟨undef,λ_=>undef,0,default⟩⟩
theorem WK(w:World):HR Qf [] w where
 obj:=λid s h=>by simp[Qf]at h
 inj:=λid id' s s' l l' h=>by simp[Qf]at h
 resRow:=λb h=>h.elim
 resNo:=λid s l h=>by simp[Qf]at h
theorem Zu(b:Nat):Qf.un b:=by
 rintro(⟨id,s,l,h,_⟩|h)
 ·simp[Qf]at h
 ·exact h
theorem fn_calls{f:FuncId}{ts:List AV}{args:Array Value}{W:World}(h:Qo P f ts [] λv A'=>v=aB true/\A'=[])(ha:Ji Qf W ts args)(hgl:GlOk Qf W:=by intro _ _ _ h;exact nomatch h):
  Calls P f args W λe W'=>e=.returned (.bool true)/\W.heap.size<=W'.heap.size/\(∀b,b<W.heap.size->W'.heap[b]? =W.heap[b]?)/\W'.os=W.os/\W'.output=W.output:=by
 rw[<-Az (n:=0)];refine BN (h.2 Qf W args hgl (WK W) ha) ?_;rintro e w' ⟨v,A',I',cv,rfl,⟨rfl,rfl⟩,hv,_,hs⟩;have hv':TR I'.un w' (.bool true) cv:=hv;cases hv';exact⟨rfl,hs.size,λb hb=>hs.frame b hb (Zu b),hs.os,hs.out⟩
end
end Go.Abs
