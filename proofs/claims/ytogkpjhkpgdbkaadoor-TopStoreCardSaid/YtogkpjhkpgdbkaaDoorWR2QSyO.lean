/-
  A general library: ranges over functions in symbolic runs: a round, and the statement, as units.
-/
import Derived.Test.YtogkpjhkpgdbkaaDoorWR2QSyI
set_option linter.all false
namespace Go.Abs
variable [Gl]
def CC.rF : CC → Operand
 | .rng f _ _ _ => f
 | _ => .func 0
def CC.rP : CC → Array Tmp
 | .rng _ ps _ _ => ps
 | _ => #[]
def CC.rA : CC → CC
 | .rng _ _ a _ => a
 | _ => .skip
def CC.rB : CC → CC
 | .rng _ _ _ b => b
 | _ => .skip
def CC.isRng : CC → Bool
 | .rng .. => true
 | _ => false
def rngs : CC → Nat → List (Nat × CC)
 | .seq a b,i => rngs a i ++ rngs b (i + a.nl)
 | .cond _ a b,i => rngs a i ++ rngs b (i + a.nl)
 | .block _ a,i => rngs a i
 | .scp a,i => rngs a i
 | .rng f ps a b,i => [(i,.rng f ps a b)]
 | _,_ => []
def AllR (P : Program) (N n0 : Nat) (E : Env) (l : List (Nat × CC)) : Prop := ∀ p ∈ l,∀ f ps a b,p.2 = .rng f ps a b → ∀ u,E.lp p.1 = some u → RngOkS P N n0 f ps a b u
theorem AllR.nil {P : Program} {N n0 : Nat} {E : Env} : AllR P N n0 E [] := fun p hp => by simp at hp
theorem AllR.cons {P : Program} {N n0 : Nat} {E : Env} {i : Nat} {R : CC} {l : List (Nat × CC)} {u : LoopS} (h1 : E.lp i = some u) (h0 : R.isRng = true) (h2 : RngOkS P N n0 R.rF R.rP R.rA R.rB u) (h : AllR P N n0 E l) : AllR P N n0 E ((i,R) :: l) := fun p hp f ps a b he u' hu => by
 rcases List.mem_cons.1 hp with rfl | hp
 ·have he : R = .rng f ps a b := he
  subst he
  rw [h1] at hu
  injection hu with hu
  subst hu
  exact h2
 ·exact h p hp f ps a b he u' hu
theorem RgOk.of {P : Program} {N : Nat} {ro : Option Nat} {n0 : Nat} {E : Env} (hro : ro = none) : ∀ {C : CC} {i : Nat},AllR P N n0 E (rngs C i) → RgOk P N ro n0 E none C i
 | .seq a b,i,h => ⟨RgOk.of hro fun p hp => h p (List.mem_append.2 (.inl hp)),RgOk.of hro fun p hp => h p (List.mem_append.2 (.inr hp))⟩
 | .cond _ a b,i,h => ⟨RgOk.of hro fun p hp => h p (List.mem_append.2 (.inl hp)),RgOk.of hro fun p hp => h p (List.mem_append.2 (.inr hp))⟩
 | .block _ a,i,h => RgOk.of hro (C := a) h
 | .scp a,i,h => RgOk.of hro (C := a) h
 | .lbl,_,_ => trivial
 | .rng f ps a b,i,h => ⟨hro,fun u hu => h (i,.rng f ps a b) (by simp [rngs]) f ps a b rfl u hu⟩
 | .skip,_,_ => trivial
 | .reg _,_,_ => trivial
 | .drw _ _,_,_ => trivial
 | .loop _,_,_ => trivial
 | .exit _,_,_ => trivial
 | .ret,_,_ => trivial
section
variable {P : Program} {N : Nat} {ro : Option Nat} {n0 : Nat}
theorem BodyF.ghost {a b : Code} {r r' : Regs} {σ σ' : Heap} {Q : Exit → Regs → Heap → Prop} (hg : GhostF N n0 r σ r' σ') (h : BodyF P N n0 a b r' σ' Q) : BodyF P N n0 a b r σ Q := fun l => okF_ghost hg (h l)
theorem BodyF.post {a b : Code} {r : Regs} {σ : Heap} {Q : Exit → Regs → Heap → Prop} (h : BodyF P N n0 a b r σ fun e r' σ' => ∃ r'' σ'',GhostF N n0 r' σ' r'' σ'' ∧ Q e r'' σ'') : BodyF P N n0 a b r σ Q :=
 fun l => (h l).mono fun _ _ _ ⟨h1,r'',h2,h3,h4⟩ => ⟨h1,r'',h2,h3,okF_post h4⟩
structure Rnd (A B : CC) (ps : Array Tmp) (N : Nat) (y : YI) : Prop where
 ps : y.ps = ps
 n : y.n = N
 ex : ∃ ks ks' ks'',strip y.assign ks = some (A,ks') ∧ strip y.body ks' = some (B,ks'')
end
end Go.Abs
