/- A part of the proof. -/
import Derived.Test.YtpbplpgfloaaiaaGreatDoorXS2QSyI
set_option linter.all false
namespace Go.Abs
variable [Gl]
def Xe{X Y:Type}{step:X->Option (X⊕Y)}(Inv:X->Prop)(Post:Y->Prop)(hs:∀x r,Inv x->step x=some r->match r with|.inl x'=>Inv x'|.inr y=>Post y){x:X}{y:Y}(hx:Inv x)(h:iter step x=some y):Post y:=by
 obtain⟨n,hn⟩:=YB h
 induction n generalizing x with
 |zero=>cases hn
 |succ n ih=>
  simp only[iterN]at hn;split at hn
  ·rename_i x' he;exact ih (hs _ _ hx he) (Zs hn) hn
  ·rename_i y' he;injection hn with hn;subst hn;exact hs _ _ hx he
  ·cases hn
def cond_some{α:Type}{b:Bool}{p q:Option α}{y:α}(h:(bif b then p else q)=some y):(b=true/\p=some y)\/(b=false/\q=some y):=by
 cases b
 ·exact .inr ⟨rfl,h⟩
 ·exact .inl ⟨rfl,h⟩
def Qf{α β:Type}{o:Option α}{k:α->Option β}{y:β}(h:bindO o k=some y):∃a,o=some a/\k a=some y:=by
 cases o with
 |none=>cases h
 |some a=>exact⟨a,rfl,h⟩
def sumC_some{α β γ:Type}{s:α⊕β}{k:α->Option γ}{l:β->Option γ}{y:γ}(h:sumC s k l=some y):(∃a,s=.inl a/\k a=some y)\/(∃b,s=.inr b/\l b=some y):=by
 cases s with
 |inl a=>exact .inl ⟨a,rfl,h⟩
 |inr b=>exact .inr ⟨b,rfl,h⟩
end Go.Abs
