/-
  A general library: contracts of symbolic runs, put to use at calls.
-/
import Derived.Test.YthchfbanjeiieaaNR8QSyG
set_option linter.all false
namespace Go.Abs
variable [Gl]
def shArgs : Nat → List ShV → List (Nat × ShV)
 | _,[] => []
 | i,s :: l => (i,s) :: shArgs (i + 1) l
structure Sg (X : Type) where
 vs : List ShV
 h : List ShO
 to : ShR.T (shArgs 0 vs) → ShH.T h → X
 fa : X → ShR.T (shArgs 0 vs)
 fh : X → ShH.T h
def valsOf : SR → List SV
 | [] => []
 | (_,_,v) :: r => v :: valsOf r
def Sg.A {X : Type} (g : Sg X) (x : X) : List SV := valsOf (ShR.fill (shArgs 0 g.vs) (g.fa x))
def Sg.H {X : Type} (g : Sg X) (x : X) : SH := ShH.fill g.h (g.fh x)
@[reducible] def Sg.tm {X : Type} (g : Sg X) : Tm := ⟨shArgs 0 g.vs,g.h⟩
theorem vals_length : ∀ (l : List ShV) (i : Nat) (x : ShR.T (shArgs i l)),(valsOf (ShR.fill (shArgs i l) x)).length = l.length
 | [],_,_ => rfl
 | s :: l,i,x => by simp only [shArgs,ShR.fill,valsOf,List.length_cons]; rw [vals_length l (i + 1) x.2]
theorem fillH_length : ∀ (l : List ShO) (x : ShH.T l),(ShH.fill l x).length = l.length
 | [],_ => rfl
 | s :: l,x => by simp only [ShH.fill,List.length_cons,fillH_length l x.2]
structure Known (P : Program) (f : FuncId) {X Y : Type} (g : Sg X) (ft : Ft Y) (run : X → Option Y) : Prop where
 to : ∀ a b,g.fa (g.to a b) = a ∧ g.fh (g.to a b) = b
 low : g.vs.length ≤ BIG
 ok : ∀ x y,run x = some y → FnOk P f ((g.A x).map SV.den) (SH.den (g.H x)) fun v τ => v = (ft.V y).den ∧ τ = SH.den (ft.H y)
theorem Known.mono {P : Program} {f : FuncId} {X Y : Type} {g : Sg X} {ft : Ft Y} {run run' : X → Option Y} (h : Known P f g ft run) (hr : ∀ x y,run' x = some y → run x = some y) : Known P f g ft run' :=
 ⟨h.to,h.low,fun x y hy => h.ok x y (hr x y hy)⟩
section
variable {P : Program} {f : FuncId} {X Y : Type} {g : Sg X} {ft : Ft Y} {run : X → Option Y}
inductive Pth where
 | arg (i j : Nat)
 | cell (k j : Nat)
end
end Go.Abs
