/-
  The functions of defects, run on symbolic values.
-/
import Derived.Test.YthchfbanjeiieaaNR8QT9
set_option linter.all false
namespace Go.Proofs.Ythchfbanjeiieaa
open Go.Abs
set_option maxRecDepth 100000
namespace F23
structure gX where
 c : Int
def g : Sg gX where
 vs := [.c (.it .u8)]
 h := []
 to := fun a b => ⟨a.1⟩
 fa := fun x => (x.c,())
 fh := fun x => ()
abbrev fY := Int
def f : Ft fY where
 ord := none
 sh := .c (.it .u8)
 h := []
 to := fun a b => (a)
 fv := fun y => y
 fh := fun y => ()
def cl : List (FuncId × Con) := []
theorem cl_ok : allCon Try.prog cl := trivial
def E0 : Env := ⟨ty,cfOf cl,fun _ => none,none⟩
def m (x : gX) : Option fY := bif bif x.c == 6 then x.c == 6 else bif x.c == 7 then x.c == 7 else bif x.c == 8 then x.c == 8 else x.c == 9 then some (IntKind.u8.wrap (15 - x.c))
else
 bif bif x.c == 10 then x.c == 10 else bif x.c == 11 then x.c == 11 else bif x.c == 12 then x.c == 12 else x.c == 13 then some (IntKind.u8.wrap (23 - x.c))
 else
  bif bif x.c == 17 then x.c == 17 else x.c == 18 then some (IntKind.u8.wrap (35 - x.c))
  else bif x.c == 16 then some x.c else bif decide (x.c ≥ 19) then some x.c else some (IntKind.u8.wrap (↑(BitVec.ofInt 8 x.c ^^^ BitVec.ofInt 8 1).toNat : Int))
theorem m_eq (x : gX) : exec E0 31 C23 0 (initS 0 (g.A x)) (g.H x) (finish 0 ty [.tmp 2] f) = m x := by kernel_rfl
theorem tl : topL C23 0 = [] := by kernel_rfl
theorem known : Known Try.prog 23 g f m :=
 mk_known mixed (env_ok ty_ok cl_ok _) s23 rfl rfl tl AllL.nil (fun _ _ => ⟨rfl,rfl⟩) (fun _ _ => ⟨rfl,rfl⟩) m_eq
end F23
namespace F25
structure gX where
 c : Int
def g : Sg gX where
 vs := [.c (.it .u8)]
 h := []
 to := fun a b => ⟨a.1⟩
 fa := fun x => (x.c,())
 fh := fun x => ()
abbrev fY := List UInt8
def f : Ft fY where
 ord := none
 sh := .c (.sg)
 h := []
 to := fun a b => (a)
 fv := fun y => y
 fh := fun y => ()
def cl : List (FuncId × Con) := []
theorem cl_ok : allCon Try.prog cl := trivial
def E0 : Env := ⟨ty,cfOf cl,fun _ => none,none⟩
def m (x : gX) : Option fY := bif decide (IntKind.i64.wrap x.c ≥ (↑19 : Int)) then some [63]
else
 bif inR x.c 19 then
   some
     ([[83,116,117,99,107,65,116,48],[83,116,117,99,107,65,116,49],[78,111,82,105,115,101],[78,111,70,97,108,108],
             [73,110,118,101,114,116,82,105,115,101],[73,110,118,101,114,116,70,97,108,108],[82,105,115,101,48],[82,105,115,101,49],
             [70,97,108,108,48],[70,97,108,108,49],[72,111,108,100,48,48],[72,111,108,100,48,49],[72,111,108,100,49,48],[72,111,108,100,49,49],
             [78,111,67,101,108,108,48],[78,111,67,101,108,108,49],[87,114,111,110,103],[66,111,116,104,65,110,100],
             [66,111,116,104,79,114]][x.c.toNat]?.getD
       [])
 else none
theorem m_eq (x : gX) : exec E0 14 C25 0 (initS 0 (g.A x)) (g.H x) (finish 0 ty [.tmp 2] f) = m x := by kernel_rfl
theorem tl : topL C25 0 = [] := by kernel_rfl
theorem known : Known Try.prog 25 g f m :=
 mk_known mixed (env_ok ty_ok cl_ok _) s25 rfl rfl tl AllL.nil (fun _ _ => ⟨rfl,rfl⟩) (fun _ _ => ⟨rfl,rfl⟩) m_eq
end F25
end Go.Proofs.Ythchfbanjeiieaa
