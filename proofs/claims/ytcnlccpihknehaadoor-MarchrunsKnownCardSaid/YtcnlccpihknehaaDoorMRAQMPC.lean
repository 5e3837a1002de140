/-
  March runs: the statements Longer and Known: their runs answer true.
-/
import Derived.Test.YtcnlccpihknehaaDoorMRAQMPB
import Derived.Test.YtcnlccpihknehaaDoorMRAQMUJ
import Derived.Test.YtcnlccpihknehaaDoorMRAQMUK
set_option linter.all false
namespace Go.Proofs.YtcnlccpihknehaaDoor
open Go.Abs
namespace Mr
open Pl
def kn (i : Nat) : Bool := cov marchc i && (if i < 3 ∨ 14 ≤ i then cov matsp i else true) && (if i = 3 then !cov matsp i else true) && (if i < 4 ∨ 14 ≤ i then cov matspp i else true)
theorem kn_all : (List.range 19).all kn = true := by kernel_rfl
theorem run10 : M10.m () = some true := by
 have key : iter M10.s0 ⟨marchc,matsp,matspp,((0 : Nat) : Int)⟩ = some (.inl ()) := by
   refine iter_for (step := M10.s0) (fun i => ⟨marchc,matsp,matspp,(i : Int)⟩) (n := 19) (fun i hi => ?_) ?_
   · have e1 : ((i : Int) < 19) := by omega
     have e2 : IntKind.u8.wrap (i : Int) = (i : Int) := w8 (by omega) (by omega)
     have hk := List.all_eq_true.1 kn_all i (List.mem_range.2 hi)
     have a1 : ((i : Int) < 3) = (i < 3) := by simp; omega
     have a2 : ((i : Int) ≥ 14) = (14 ≤ i) := by simp; omega
     have a3 : ((i : Int) == 3) = decide (i = 3) := by by_cases h : i = 3 <;> simp [h]; omega
     have a4 : ((i : Int) < 4) = (i < 4) := by simp; omega
     unfold kn at hk
     unfold M10.s0
     simp only [e1,e2,m37 marchc_V hi,m37 matsp_V hi,m37 matspp_V hi,decide_true,cond_true,bindO,a1,a2,a3,a4,suc (show i < 9000000000000000000 by omega)]
     generalize cov marchc i = x at hk
     generalize cov matsp i = y at hk
     generalize cov matspp i = z at hk
     by_cases g1 : i < 3 <;> by_cases g2 : 14 ≤ i <;> by_cases g3 : i = 3 <;> by_cases g4 : i < 4 <;> cases x <;> cases y <;> cases z <;> simp [g1,g2,g3,g4] at hk ⊢
   · unfold M10.s0
     rfl
 have key : iter M10.s0 ⟨marchc,matsp,matspp,0⟩ = some (.inl ()) := key
 unfold M10.m
 simp only [marchc_run,matsp_run,matspp_run,bindO,Bool.not_true,cond_false,key,sumC,lives]
end Mr
end Go.Proofs.YtcnlccpihknehaaDoor
