/- A part of the proof. -/
import Derived.Test.YtpbplpgfloaaiaaGreatDoorXS2QSyI
set_option linter.all false
namespace Go.Abs
variable [Gl]
def CC.rF:CC->Operand
 |.rng f _ _ _=>f
 |_=>.func 0
def CC.rP:CC->Array Tmp
 |.rng _ ps _ _=>ps
 |_=> #[]
def CC.rA:CC->CC
 |.rng _ _ a _=>a
 |_=>.skip
def CC.rB:CC->CC
 |.rng _ _ _ b=>b
 |_=>.skip
def CC.isRng:CC->Bool
 |.rng .. =>true
 |_=>false
def rngs:CC->Nat->List (Nat×CC)
 |.seq a b,i=>rngs a i++rngs b (i+a.nl)
 |.cond _ a b,i=>rngs a i++rngs b (i+a.nl)
 |.block _ a,i=>rngs a i
 |.scp a,i=>rngs a i
 |.rng f ps a b,i=>[(i,.rng f ps a b)]
 |_,_=>[]
def AllR(P:Program)(N n0:Nat)(E:Env)(l:List (Nat×CC)):Prop:=∀p∈l,∀f ps a b,p.2=.rng f ps a b->∀u,E.lp p.1=some u->RngOkS P N n0 f ps a b u
def AllR.nil{P:Program}{N n0:Nat}{E:Env}:AllR P N n0 E []:=λp hp=>by simp at hp
def AllR.cons{P:Program}{N n0:Nat}{E:Env}{i:Nat}{R:CC}{l:List (Nat×CC)}{u:QT}(h1:E.lp i=some u)(h0:R.isRng=true)(h2:RngOkS P N n0 R.rF R.rP R.rA R.rB u)(h:AllR P N n0 E l):AllR P N n0 E ((i,R)::l):=λp hp f ps a b he u' hu=>by
 rcases AT.1 hp with rfl|hp
 ·have he:R=.rng f ps a b:=he;subst he;rw[h1]at hu;injection hu with hu;subst hu;exact h2
 ·exact h p hp f ps a b he u' hu
def Jb.of{P:Program}{N:Nat}{ro:Option Nat}{n0:Nat}{E:Env}(hro:ro=none):∀{C:CC} {i:Nat},AllR P N n0 E (rngs C i)->Jb P N ro n0 E none C i
 |.seq a b,i,h=>⟨Jb.of hro λp hp=>h p (Ak.2 (.inl hp)),Jb.of hro λp hp=>h p (Ak.2 (.inr hp))⟩
 |.cond _ a b,i,h=>⟨Jb.of hro λp hp=>h p (Ak.2 (.inl hp)),Jb.of hro λp hp=>h p (Ak.2 (.inr hp))⟩
 |.block _ a,i,h=>Jb.of hro (C:=a) h
 |.scp a,i,h=>Jb.of hro (C:=a) h
 |.lbl,_,_=>trivial
 |.rng f ps a b,i,h=>⟨hro,λu hu=>h (i,.rng f ps a b) (by simp[rngs]) f ps a b rfl u hu⟩
 |.skip,_,_=>trivial
 |.reg _,_,_=>trivial
 |.drw _ _,_,_=>trivial
 |.loop _,_,_=>trivial
 |.exit _,_,_=>trivial
 |.ret,_,_=>trivial
section
variable {P:Program}{N:Nat}{ro:Option Nat}{n0:Nat}
def Ka.ghost{a b:Code}{r r':QB}{M S':QA}{Q:Exit->QB->QA->Prop}(hg:J0 N n0 r M r' S')(h:Ka P N n0 a b r' S' Q):Ka P N n0 a b r M Q:=λl=>Xu hg (h l)
def Ka.post{a b:Code}{r:QB}{M:QA}{Q:Exit->QB->QA->Prop}(h:Ka P N n0 a b r M λe r' S'=>∃r'' S'',J0 N n0 r' S' r'' S''/\Q e r'' S''):Ka P N n0 a b r M Q:=
 λl=>(h l).mono λ_ _ _ ⟨h1,r'',h2,h3,h4⟩=>⟨h1,r'',h2,h3,WN h4⟩
structure Rnd(A B:CC)(ps:Array Tmp)(N:Nat)(y:YI):Prop where
 ps:y.ps=ps
 n:y.n=N
 ex:∃ks ks' ks'',strip y.assign ks=some (A,ks')/\strip y.body ks'=some (B,ks'')
end
end Go.Abs
