/-
  What the proof stands on.
-/
import Derived.Test.YthchfbanjeiieaaR5QT9
import Derived.Test.YthchfbanjeiieaaR5QT4
import Derived.Test.YthchfbanjeiieaaR5QT5
/-
  The functions of defects, run on symbolic values.
-/
set_option linter.unusedSimpArgs false
set_option linter.unusedVariables false
namespace Go.Proofs.Ythchfbanjeiieaa
open Go.Abs

set_option maxRecDepth 100000
namespace F22
structure gX where
  c : Int

def g : Sg gX where
  vs := [.c (.it .u8)]
  h := []
  to := fun a b => ⟨a.1⟩
  fa := fun x => (x.c, ())
  fh := fun x => ()
abbrev fY := Bool
def f : Ft fY where
  ord := none
  sh := .c (.bo)
  h := []
  to := fun a b => (a)
  fv := fun y => y
  fh := fun y => ()
def cl : List (FuncId × Con) := []
theorem cl_ok : allCon Try.prog cl := trivial
def E0 : Env := ⟨ty, cfOf cl, fun _ => none⟩
def m (x : gX) : Option fY :=
  some (bif bif decide (x.c ≤ 3) then true else x.c == 14 then true else x.c == 15)
theorem m_eq (x : gX) : exec E0 13 C22 0 (initS 0 (g.A x)) (g.H x) (finish 0 ty [.tmp 2] f) = m x := by kernel_rfl
theorem tl : topL C22 0 = [] := by kernel_rfl
theorem known : Known Try.prog 22 g f m :=
  mk_known mixed (env_ok ty_ok cl_ok _) s22 rfl rfl tl AllL.nil (fun _ _ => ⟨rfl, rfl⟩) (fun _ _ => ⟨rfl, rfl⟩) m_eq
def con : Con := conT g f m default
theorem con_ok : ConOk Try.prog 22 con := conT_ok known (fun _ => rfl) rfl
end F22
namespace F23
structure gX where
  c : Int

def g : Sg gX where
  vs := [.c (.it .u8)]
  h := []
  to := fun a b => ⟨a.1⟩
  fa := fun x => (x.c, ())
  fh := fun x => ()
abbrev fY := Int
def f : Ft fY where
  ord := none
  sh := .c (.it .u8)
  h := []
  to := fun a b => (a)
  fv := fun y => y
  fh := fun y => ()
def cl : List (FuncId × Con) := []
theorem cl_ok : allCon Try.prog cl := trivial
def E0 : Env := ⟨ty, cfOf cl, fun _ => none⟩
def m (x : gX) : Option fY :=
  bif bif x.c == 6 then x.c == 6 else bif x.c == 7 then x.c == 7 else bif x.c == 8 then x.c == 8 else x.c == 9 then some (IntKind.u8.wrap (15 - x.c))
else
  bif bif x.c == 10 then x.c == 10 else bif x.c == 11 then x.c == 11 else bif x.c == 12 then x.c == 12 else x.c == 13 then some (IntKind.u8.wrap (23 - x.c))
  else
    bif bif x.c == 17 then x.c == 17 else x.c == 18 then some (IntKind.u8.wrap (35 - x.c))
    else bif x.c == 16 then some x.c else bif decide (x.c ≥ 19) then some x.c else some (IntKind.u8.wrap (↑(BitVec.ofInt 8 x.c ^^^ BitVec.ofInt 8 1).toNat : Int))
theorem m_eq (x : gX) : exec E0 31 C23 0 (initS 0 (g.A x)) (g.H x) (finish 0 ty [.tmp 2] f) = m x := by kernel_rfl
theorem tl : topL C23 0 = [] := by kernel_rfl
theorem known : Known Try.prog 23 g f m :=
  mk_known mixed (env_ok ty_ok cl_ok _) s23 rfl rfl tl AllL.nil (fun _ _ => ⟨rfl, rfl⟩) (fun _ _ => ⟨rfl, rfl⟩) m_eq
def con : Con := conT g f m default
theorem con_ok : ConOk Try.prog 23 con := conT_ok known (fun _ => rfl) rfl
end F23
namespace F28
structure gX where
  v : Int

def g : Sg gX where
  vs := [.c (.it .u8)]
  h := []
  to := fun a b => ⟨a.1⟩
  fa := fun x => (x.v, ())
  fh := fun x => ()
abbrev fY := Bool
def f : Ft fY where
  ord := none
  sh := .c (.bo)
  h := []
  to := fun a b => (a)
  fv := fun y => y
  fh := fun y => ()
def cl : List (FuncId × Con) := []
theorem cl_ok : allCon Try.prog cl := trivial
def E0 : Env := ⟨ty, cfOf cl, fun _ => none⟩
def m (x : gX) : Option fY :=
  some (decide (x.v ≤ 1))
theorem m_eq (x : gX) : exec E0 5 C28 0 (initS 0 (g.A x)) (g.H x) (finish 0 ty [.tmp 2] f) = m x := by kernel_rfl
theorem tl : topL C28 0 = [] := by kernel_rfl
theorem known : Known Try.prog 28 g f m :=
  mk_known mixed (env_ok ty_ok cl_ok _) s28 rfl rfl tl AllL.nil (fun _ _ => ⟨rfl, rfl⟩) (fun _ _ => ⟨rfl, rfl⟩) m_eq
def con : Con := conT g f m default
theorem con_ok : ConOk Try.prog 28 con := conT_ok known (fun _ => rfl) rfl
end F28
namespace F36
structure gX where
  v : Int

def g : Sg gX where
  vs := [.c (.it .u8)]
  h := []
  to := fun a b => ⟨a.1⟩
  fa := fun x => (x.v, ())
  fh := fun x => ()
abbrev fY := Bool
def f : Ft fY where
  ord := none
  sh := .c (.bo)
  h := []
  to := fun a b => (a)
  fv := fun y => y
  fh := fun y => ()
def cl : List (FuncId × Con) := [(28, F28.con)]
theorem cl_ok : allCon Try.prog cl := ⟨F28.con_ok, trivial⟩
def E0 : Env := ⟨ty, cfOf cl, fun _ => none⟩
def m (x : gX) : Option fY :=
  bindO (F28.m { v := x.v }) fun y => some !y
theorem m_eq (x : gX) : exec E0 6 C36 0 (initS 0 (g.A x)) (g.H x) (finish 0 ty [.tmp 2] f) = m x := by kernel_rfl
theorem tl : topL C36 0 = [] := by kernel_rfl
theorem known : Known Try.prog 36 g f m :=
  mk_known mixed (env_ok ty_ok cl_ok _) s36 rfl rfl tl AllL.nil (fun _ _ => ⟨rfl, rfl⟩) (fun _ _ => ⟨rfl, rfl⟩) m_eq
def con : Con := conT g f m default
theorem con_ok : ConOk Try.prog 36 con := conT_ok known (fun _ => rfl) rfl
end F36
namespace F39
structure gX where
  s : List (Int)

def g : Sg gX where
  vs := [.c (.arr (.int .u8)), .c (.fn 36)]
  h := []
  to := fun a b => ⟨a.1⟩
  fa := fun x => (x.s, ((), ()))
  fh := fun x => ()
abbrev fY := Int
def f : Ft fY where
  ord := none
  sh := .c (.it .i64)
  h := []
  to := fun a b => (a)
  fv := fun y => y
  fh := fun y => ()
def cl : List (FuncId × Con) := [(36, F36.con)]
theorem cl_ok : allCon Try.prog cl := ⟨F36.con_ok, trivial⟩
def E1 : Env := ⟨ty, cfOf cl, fun _ => none⟩
structure p0X where
  s : List (Int)
  n : Int
  i : Int

def p0 : Pt p0X where
  own := []
  t := ⟨[(0, .c (.arr (.int .u8))), (1, .c (.fn 36)), (7, .c (.it .i64)), (8, .c (.it .i64))], []⟩
  to := fun v => ⟨v.1.1, v.1.2.2.1, v.1.2.2.2.1⟩
  fr := fun x => ((x.s, ((), (x.n, (x.i, ())))), ())
abbrev q0X := Unit
def q0 : Pt q0X where
  own := []
  t := ⟨[], []⟩
  to := fun v => ()
  fr := fun x => ((), ())
structure z0X where
  r : Int

def z0 : Pt z0X where
  own := []
  t := ⟨[(4, .c (.it .i64))], []⟩
  to := fun v => ⟨v.1.1⟩
  fr := fun x => ((x.r, ()), ())
def s0 (x : p0X) : Option (p0X ⊕ (q0X ⊕ z0X)) :=
  bif decide (x.i < x.n) then
  bif inR x.i x.s.length then
    bindO (F36.m { v := x.s[x.i.toNat]?.getD 0 }) fun y =>
      bif y then some (Sum.inr (Sum.inr { r := x.i })) else some (Sum.inl { s := x.s, n := x.n, i := IntKind.i64.wrap (x.i + 1) })
  else none
else some (Sum.inr (Sum.inl PUnit.unit))
theorem s0_eq (x : p0X) : exec E1 19 (C39.bodyAt 0) 1 (p0.R x) (p0.H x) (roundK2 0 p0 (.exit 0) q0 .ret z0) = s0 x := by kernel_rfl
noncomputable def l0 : LoopS := mkLoop2 0 p0 (.exit 0) q0 .ret z0 s0
theorem t0 : topL (C39.bodyAt 0) 1 = [] := by kernel_rfl
theorem l0_ok : LoopOkS Try.prog 19 none 0 (C39.bodyAt 0) l0 := mkLoop2_ok mixed (env_ok ty_ok cl_ok _) (by trivial) (by trivial) (fun _ => rfl) (fun _ => rfl) (fun _ => rfl) (t0 ▸ (AllL.nil)) s0_eq
noncomputable def E0 : Env := ⟨ty, cfOf cl, lpOf [(0, l0)]⟩
noncomputable def m (x : gX) : Option fY :=
  bindO (iter s0 { s := x.s, n := (↑x.s.length : Int), i := 0 }) fun s => sumC s (fun y => some (-1)) fun z => some z.r
theorem m_eq (x : gX) : exec E0 19 C39 0 (initS 0 (g.A x)) (g.H x) (finish 0 ty [.tmp 4] f) = m x := by kernel_rfl
theorem tl : topL C39 0 = [(0, C39.bodyAt 0)] := by kernel_rfl
theorem known : Known Try.prog 39 g f m :=
  mk_known mixed (env_ok ty_ok cl_ok _) s39 rfl rfl tl (AllL.cons rfl l0_ok AllL.nil) (fun _ _ => ⟨rfl, rfl⟩) (fun _ _ => ⟨rfl, rfl⟩) m_eq
noncomputable def con : Con := conT g f m default
theorem con_ok : ConOk Try.prog 39 con := conT_ok known (fun _ => rfl) rfl
end F39
namespace F35
structure gX where
  s : List (Int)

def g : Sg gX where
  vs := [.c (.arr (.int .u8)), .c (.fn 36)]
  h := []
  to := fun a b => ⟨a.1⟩
  fa := fun x => (x.s, ((), ()))
  fh := fun x => ()
abbrev fY := Bool
def f : Ft fY where
  ord := none
  sh := .c (.bo)
  h := []
  to := fun a b => (a)
  fv := fun y => y
  fh := fun y => ()
noncomputable def cl : List (FuncId × Con) := [(39, F39.con)]
theorem cl_ok : allCon Try.prog cl := ⟨F39.con_ok, trivial⟩
noncomputable def E0 : Env := ⟨ty, cfOf cl, fun _ => none⟩
noncomputable def m (x : gX) : Option fY :=
  bindO (F39.m { s := x.s }) fun y => some (decide (y ≥ 0))
theorem m_eq (x : gX) : exec E0 9 C35 0 (initS 0 (g.A x)) (g.H x) (finish 0 ty [.tmp 4] f) = m x := by kernel_rfl
theorem tl : topL C35 0 = [] := by kernel_rfl
theorem known : Known Try.prog 35 g f m :=
  mk_known mixed (env_ok ty_ok cl_ok _) s35 rfl rfl tl AllL.nil (fun _ _ => ⟨rfl, rfl⟩) (fun _ _ => ⟨rfl, rfl⟩) m_eq
noncomputable def con : Con := conT g f m default
theorem con_ok : ConOk Try.prog 35 con := conT_ok known (fun _ => rfl) rfl
end F35
namespace F33
structure gX where
  s : List (Int)

def g : Sg gX where
  vs := [.c (.arr (.int .u8))]
  h := []
  to := fun a b => ⟨a.1⟩
  fa := fun x => (x.s, ())
  fh := fun x => ()
abbrev fY := Nat × Nat × List (Int)
def f : Ft fY where
  ord := none
  sh := .c (.sl 0 0 1)
  h := [.arr (.int .u8) 0]
  to := fun a b => (a.1, a.2, b.1)
  fv := fun y => (y.1, y.2.1)
  fh := fun y => (y.2.2, ())
def cl : List (FuncId × Con) := []
theorem cl_ok : allCon Try.prog cl := trivial
def E0 : Env := ⟨ty, cfOf cl, fun _ => none⟩
def m (x : gX) : Option fY :=
  bif !eqN x.s.length 0 then bif roomB x.s.length 1 then some (0, x.s.length, x.s) else none else none
theorem m_eq (x : gX) : exec E0 8 C33 0 (initS 0 (g.A x)) (g.H x) (finish 0 ty [.tmp 2] f) = m x := by kernel_rfl
theorem tl : topL C33 0 = [] := by kernel_rfl
theorem known : Known Try.prog 33 g f m :=
  mk_known mixed (env_ok ty_ok cl_ok _) s33 rfl rfl tl AllL.nil (fun _ _ => ⟨rfl, rfl⟩) (fun _ _ => ⟨rfl, rfl⟩) m_eq
def con : Con := conG g [] f m default
theorem con_ok : ConOk Try.prog 33 con := conG_ok known
end F33
namespace F33o
structure gX where
  s_lo : Nat
  s_len : Nat
  xs : List (Int)

def g : Sg gX where
  vs := [.c (.sl 0 0 1)]
  h := [.arr (.int .u8) 0]
  to := fun a b => ⟨a.1.1, a.1.2, b.1⟩
  fa := fun x => ((x.s_lo, x.s_len), ())
  fh := fun x => (x.xs, ())
abbrev fY := Nat × Nat × List (Int) × List (Int)
def f : Ft fY where
  ord := none
  sh := .c (.sl 1 0 1)
  h := [.arr (.int .u8) 0, .arr (.int .u8) 0]
  to := fun a b => (a.1, a.2, b.1, b.2.1)
  fv := fun y => (y.1, y.2.1)
  fh := fun y => (y.2.2.1, (y.2.2.2, ()))
def cl : List (FuncId × Con) := []
theorem cl_ok : allCon Try.prog cl := trivial
def E0 : Env := ⟨ty, cfOf cl, fun _ => none⟩
def m (x : gX) : Option fY :=
  bif !eqN x.s_len 0 then bif leB (x.s_lo + x.s_len) x.xs.length && roomB x.s_len 1 then some (0, x.s_len, x.xs, List.take x.s_len (List.drop x.s_lo x.xs)) else none else none
theorem m_eq (x : gX) : exec E0 8 C33 0 (initS 0 (g.A x)) (g.H x) (finish 1 ty [.tmp 2] f) = m x := by kernel_rfl
theorem tl : topL C33 0 = [] := by kernel_rfl
theorem known : Known Try.prog 33 g f m :=
  mk_known mixed (env_ok ty_ok cl_ok _) s33 rfl rfl tl AllL.nil (fun _ _ => ⟨rfl, rfl⟩) (fun _ _ => ⟨rfl, rfl⟩) m_eq
def con : Con := conG g [.arg 0 0] f m default
theorem con_ok : ConOk Try.prog 33 con := conG_ok known
end F33o
namespace F32
structure gX where
  s_lo : Nat
  s_len : Nat
  xs : List (Int)

def g : Sg gX where
  vs := [.c (.sl 0 0 1)]
  h := [.arr (.int .u8) 0]
  to := fun a b => ⟨a.1.1, a.1.2, b.1⟩
  fa := fun x => ((x.s_lo, x.s_len), ())
  fh := fun x => (x.xs, ())
abbrev fY := Nat × Nat × Nat × List (Int)
def f : Ft fY where
  ord := none
  sh := .c (.slc 0 0 1)
  h := [.arr (.int .u8) 0]
  to := fun a b => (a.1, a.2.1, a.2.2, b.1)
  fv := fun y => (y.1, y.2.1, y.2.2.1)
  fh := fun y => (y.2.2.2, ())
def cl : List (FuncId × Con) := []
theorem cl_ok : allCon Try.prog cl := trivial
def E0 : Env := ⟨ty, cfOf cl, fun _ => none⟩
def m (x : gX) : Option fY :=
  bif
    decide (0 ≤ (↑x.s_len : Int)) && decide ((↑x.s_len : Int) ≤ (↑x.s_len : Int)) &&
      (decide (0 ≤ (↑x.s_len : Int)) && decide ((↑x.s_len : Int) ≤ (↑(↑x.s_len : Int).toNat : Int))) then
  some (x.s_lo, (↑x.s_len : Int).toNat, (↑x.s_len : Int).toNat, x.xs)
else none
theorem m_eq (x : gX) : exec E0 9 C32 0 (initS 0 (g.A x)) (g.H x) (finish 1 ty [.tmp 2] f) = m x := by kernel_rfl
theorem tl : topL C32 0 = [] := by kernel_rfl
theorem known : Known Try.prog 32 g f m :=
  mk_known mixed (env_ok ty_ok cl_ok _) s32 rfl rfl tl AllL.nil (fun _ _ => ⟨rfl, rfl⟩) (fun _ _ => ⟨rfl, rfl⟩) m_eq
def con : Con := conG g [.arg 0 0] f m default
theorem con_ok : ConOk Try.prog 32 con := conG_ok known
end F32
namespace F34
structure gX where
  a : Int
  n : Int

def g : Sg gX where
  vs := [.c (.it .i64), .c (.ptr 0 0)]
  h := [.st [.it .i64] 1 0]
  to := fun a b => ⟨a.1, b.1.1⟩
  fa := fun x => (x.a, ((), ()))
  fh := fun x => ((x.n, ()), ())
abbrev fY := Bool × Int
def f : Ft fY where
  ord := none
  sh := .c (.bo)
  h := [.st [.it .i64] 1 0]
  to := fun a b => (a, b.1.1)
  fv := fun y => y.1
  fh := fun y => ((y.2, ()), ())
def cl : List (FuncId × Con) := []
theorem cl_ok : allCon Try.prog cl := trivial
def E0 : Env := ⟨ty, cfOf cl, fun _ => none⟩
def m (x : gX) : Option fY :=
  some (bif decide (x.a ≥ 0) then decide (x.a < x.n) else false, x.n)
theorem m_eq (x : gX) : exec E0 11 C34 0 (initS 0 (g.A x)) (g.H x) (finish 1 ty [.tmp 3] f) = m x := by kernel_rfl
theorem tl : topL C34 0 = [] := by kernel_rfl
theorem known : Known Try.prog 34 g f m :=
  mk_known mixed (env_ok ty_ok cl_ok _) s34 rfl rfl tl AllL.nil (fun _ _ => ⟨rfl, rfl⟩) (fun _ _ => ⟨rfl, rfl⟩) m_eq
def con : Con := conR g [.arg 1 0] f m default
theorem con_ok : ConOk Try.prog 34 con := conR_ok known (fun _ => rfl) (fun _ _ h => by unfold m at h; cases h; rfl)
end F34
end Go.Proofs.Ythchfbanjeiieaa
/-
  The functions of defects, run on symbolic values.
-/
set_option linter.unusedSimpArgs false
set_option linter.unusedVariables false
namespace Go.Proofs.Ythchfbanjeiieaa
open Go.Abs

set_option maxRecDepth 100000
namespace F27
structure gX where
  addr : Int
  cls : Int
  cell : Int
  other : Int
  cells_lo : Nat
  cells_len : Nat
  intact : Bool
  xs : List (Int)

def g : Sg gX where
  vs := [.c (.ptr 0 0), .c (.it .i64)]
  h := [.st [.it .u8, .it .i64, .it .i64, .sl 1 0 1, .bo] 1 0, .arr (.int .u8) 0]
  to := fun a b => ⟨a.2.1, b.1.1, b.1.2.1, b.1.2.2.1, b.1.2.2.2.1.1, b.1.2.2.2.1.2, b.1.2.2.2.2.1, b.2.1⟩
  fa := fun x => ((), (x.addr, ()))
  fh := fun x => ((x.cls, (x.cell, (x.other, ((x.cells_lo, x.cells_len), (x.intact, ()))))), (x.xs, ()))
abbrev fY := Int × Int × Int × Int × Nat × Nat × Bool × List (Int)
def f : Ft fY where
  ord := none
  sh := .c (.it .i64)
  h := [.st [.it .u8, .it .i64, .it .i64, .sl 1 0 1, .bo] 1 0, .arr (.int .u8) 0]
  to := fun a b => (a, b.1.1, b.1.2.1, b.1.2.2.1, b.1.2.2.2.1.1, b.1.2.2.2.1.2, b.1.2.2.2.2.1, b.2.1)
  fv := fun y => y.1
  fh := fun y => ((y.2.1, (y.2.2.1, (y.2.2.2.1, ((y.2.2.2.2.1, y.2.2.2.2.2.1), (y.2.2.2.2.2.2.1, ()))))), (y.2.2.2.2.2.2.2, ()))
def cl : List (FuncId × Con) := []
theorem cl_ok : allCon Try.prog cl := trivial
def E0 : Env := ⟨ty, cfOf cl, fun _ => none⟩
def m (x : gX) : Option fY :=
  bif (↑x.cells_len : Int) == 0 then some (2, x.cls, x.cell, x.other, x.cells_lo, x.cells_len, x.intact, x.xs)
else
  bif bif decide (x.addr < 0) then true else decide (x.addr ≥ (↑x.cells_len : Int)) then some (1, x.cls, x.cell, x.other, x.cells_lo, x.cells_len, x.intact, x.xs)
  else some (0, x.cls, x.cell, x.other, x.cells_lo, x.cells_len, x.intact, x.xs)
theorem m_eq (x : gX) : exec E0 28 C27 0 (initS 0 (g.A x)) (g.H x) (finish 2 ty [.tmp 4] f) = m x := by kernel_rfl
theorem tl : topL C27 0 = [] := by kernel_rfl
theorem known : Known Try.prog 27 g f m :=
  mk_known mixed (env_ok ty_ok cl_ok _) s27 rfl rfl tl AllL.nil (fun _ _ => ⟨rfl, rfl⟩) (fun _ _ => ⟨rfl, rfl⟩) m_eq
def con : Con := conG g [.arg 0 0, .cell 0 3] f m default
theorem con_ok : ConOk Try.prog 27 con := conG_ok known
end F27
namespace F29
structure gX where
  addr : Int
  cls : Int
  cell : Int
  other : Int
  cells_lo : Nat
  cells_len : Nat
  intact : Bool
  xs : List (Int)

def g : Sg gX where
  vs := [.c (.ptr 0 0), .c (.it .i64)]
  h := [.st [.it .u8, .it .i64, .it .i64, .sl 1 0 1, .bo] 1 0, .arr (.int .u8) 0]
  to := fun a b => ⟨a.2.1, b.1.1, b.1.2.1, b.1.2.2.1, b.1.2.2.2.1.1, b.1.2.2.2.1.2, b.1.2.2.2.2.1, b.2.1⟩
  fa := fun x => ((), (x.addr, ()))
  fh := fun x => ((x.cls, (x.cell, (x.other, ((x.cells_lo, x.cells_len), (x.intact, ()))))), (x.xs, ()))
abbrev fY := List (Int) × Int × Int × Int × Nat × Nat × Bool × List (Int)
def f : Ft fY where
  ord := none
  sh := .c (.arr (.int .i64))
  h := [.st [.it .u8, .it .i64, .it .i64, .sl 1 0 1, .bo] 1 0, .arr (.int .u8) 0]
  to := fun a b => (a, b.1.1, b.1.2.1, b.1.2.2.1, b.1.2.2.2.1.1, b.1.2.2.2.1.2, b.1.2.2.2.2.1, b.2.1)
  fv := fun y => y.1
  fh := fun y => ((y.2.1, (y.2.2.1, (y.2.2.2.1, ((y.2.2.2.2.1, y.2.2.2.2.2.1), (y.2.2.2.2.2.2.1, ()))))), (y.2.2.2.2.2.2.2, ()))
def cl : List (FuncId × Con) := []
theorem cl_ok : allCon Try.prog cl := trivial
def E0 : Env := ⟨ty, cfOf cl, fun _ => none⟩
def m (x : gX) : Option fY :=
  bif bif !x.intact then x.addr == x.cell else false then
  bif bif x.cls == 14 then x.cls == 14 else x.cls == 15 then some ([], x.cls, x.cell, x.other, x.cells_lo, x.cells_len, x.intact, x.xs)
  else
    bif x.cls == 16 then some ([x.other], x.cls, x.cell, x.other, x.cells_lo, x.cells_len, x.intact, x.xs)
    else
      bif bif x.cls == 17 then x.cls == 17 else x.cls == 18 then some ([x.cell, x.other], x.cls, x.cell, x.other, x.cells_lo, x.cells_len, x.intact, x.xs)
      else some ([x.addr], x.cls, x.cell, x.other, x.cells_lo, x.cells_len, x.intact, x.xs)
else some ([x.addr], x.cls, x.cell, x.other, x.cells_lo, x.cells_len, x.intact, x.xs)
theorem m_eq (x : gX) : exec E0 51 C29 0 (initS 0 (g.A x)) (g.H x) (finish 2 ty [.tmp 4] f) = m x := by kernel_rfl
theorem tl : topL C29 0 = [] := by kernel_rfl
theorem known : Known Try.prog 29 g f m :=
  mk_known mixed (env_ok ty_ok cl_ok _) s29 rfl rfl tl AllL.nil (fun _ _ => ⟨rfl, rfl⟩) (fun _ _ => ⟨rfl, rfl⟩) m_eq
def con : Con := conG g [.arg 0 0, .cell 0 3] f m default
theorem con_ok : ConOk Try.prog 29 con := conG_ok known
end F29
namespace F37
structure gX where
  cls : Int
  cell : Int
  other : Int
  cells_lo : Nat
  cells_len : Nat
  intact : Bool
  xs : List (Int)

def g : Sg gX where
  vs := [.c (.ptr 0 0)]
  h := [.st [.it .u8, .it .i64, .it .i64, .sl 1 0 1, .bo] 1 0, .arr (.int .u8) 0]
  to := fun a b => ⟨b.1.1, b.1.2.1, b.1.2.2.1, b.1.2.2.2.1.1, b.1.2.2.2.1.2, b.1.2.2.2.2.1, b.2.1⟩
  fa := fun x => ((), ())
  fh := fun x => ((x.cls, (x.cell, (x.other, ((x.cells_lo, x.cells_len), (x.intact, ()))))), (x.xs, ()))
abbrev fY := Int × Int × Int × Nat × Nat × Bool × List (Int)
def f : Ft fY where
  ord := none
  sh := .tup []
  h := [.st [.it .u8, .it .i64, .it .i64, .sl 1 0 1, .bo] 1 0, .arr (.int .u8) 0]
  to := fun a b => (b.1.1, b.1.2.1, b.1.2.2.1, b.1.2.2.2.1.1, b.1.2.2.2.1.2, b.1.2.2.2.2.1, b.2.1)
  fv := fun y => ()
  fh := fun y => ((y.1, (y.2.1, (y.2.2.1, ((y.2.2.2.1, y.2.2.2.2.1), (y.2.2.2.2.2.1, ()))))), (y.2.2.2.2.2.2, ()))
def cl : List (FuncId × Con) := []
theorem cl_ok : allCon Try.prog cl := trivial
def E0 : Env := ⟨ty, cfOf cl, fun _ => none⟩
def m (x : gX) : Option fY :=
  bif bif bif x.intact then true else decide (x.cls < 10) then true else decide (x.cls > 13) then some (x.cls, x.cell, x.other, x.cells_lo, x.cells_len, x.intact, x.xs)
else
  bif inR x.other x.cells_len then
    bif decide (x.cells_lo + x.other.toNat < x.xs.length) then
      bif x.xs[x.cells_lo + x.other.toNat]?.getD 0 == IntKind.u8.wrap ((IntKind.u8.wrap (x.cls - 10)).tdiv 2) then
        bif inR x.cell x.cells_len then
          bif decide (x.cells_lo + x.cell.toNat < x.xs.length) then
            some (x.cls, x.cell, x.other, x.cells_lo, x.cells_len, x.intact, x.xs.set (x.cells_lo + x.cell.toNat) ((IntKind.u8.wrap (x.cls - 10)).tmod 2))
          else none
        else none
      else some (x.cls, x.cell, x.other, x.cells_lo, x.cells_len, x.intact, x.xs)
    else none
  else none
theorem m_eq (x : gX) : exec E0 55 C37 0 (initS 0 (g.A x)) (g.H x) (finish 2 ty [] f) = m x := by kernel_rfl
theorem tl : topL C37 0 = [] := by kernel_rfl
theorem known : Known Try.prog 37 g f m :=
  mk_known mixed (env_ok ty_ok cl_ok _) s37 rfl rfl tl AllL.nil (fun _ _ => ⟨rfl, rfl⟩) (fun _ _ => ⟨rfl, rfl⟩) m_eq
def con : Con := conG g [.arg 0 0, .cell 0 3] f m default
theorem con_ok : ConOk Try.prog 37 con := conG_ok known
end F37
namespace F38
structure gX where
  v : Int
  cls : Int
  cell : Int
  other : Int
  cells_lo : Nat
  cells_len : Nat
  intact : Bool
  xs : List (Int)

def g : Sg gX where
  vs := [.c (.ptr 0 0), .c (.it .u8)]
  h := [.st [.it .u8, .it .i64, .it .i64, .sl 1 0 1, .bo] 1 0, .arr (.int .u8) 0]
  to := fun a b => ⟨a.2.1, b.1.1, b.1.2.1, b.1.2.2.1, b.1.2.2.2.1.1, b.1.2.2.2.1.2, b.1.2.2.2.2.1, b.2.1⟩
  fa := fun x => ((), (x.v, ()))
  fh := fun x => ((x.cls, (x.cell, (x.other, ((x.cells_lo, x.cells_len), (x.intact, ()))))), (x.xs, ()))
abbrev fY := Int × Int × Int × Nat × Nat × Bool × List (Int)
def f : Ft fY where
  ord := none
  sh := .tup []
  h := [.st [.it .u8, .it .i64, .it .i64, .sl 1 0 1, .bo] 1 0, .arr (.int .u8) 0]
  to := fun a b => (b.1.1, b.1.2.1, b.1.2.2.1, b.1.2.2.2.1.1, b.1.2.2.2.1.2, b.1.2.2.2.2.1, b.2.1)
  fv := fun y => ()
  fh := fun y => ((y.1, (y.2.1, (y.2.2.1, ((y.2.2.2.1, y.2.2.2.2.1), (y.2.2.2.2.2.1, ()))))), (y.2.2.2.2.2.2, ()))
def cl : List (FuncId × Con) := []
theorem cl_ok : allCon Try.prog cl := trivial
def E0 : Env := ⟨ty, cfOf cl, fun _ => none⟩
def m (x : gX) : Option fY :=
  bif bif bif x.cls == 4 then x.v == 1 else false then bif x.cls == 4 then x.v == 1 else false else bif x.cls == 5 then x.v == 0 else false then
  bif inR x.cell x.cells_len then
    bif decide (x.cells_lo + x.cell.toNat < x.xs.length) then
      bif inR x.cell x.cells_len then
        bif decide (x.cells_lo + x.cell.toNat < x.xs.length) then
          some
            (x.cls, x.cell, x.other, x.cells_lo, x.cells_len, x.intact,
              x.xs.set (x.cells_lo + x.cell.toNat) (IntKind.u8.wrap (↑(BitVec.ofInt 8 (x.xs[x.cells_lo + x.cell.toNat]?.getD 0) ^^^ BitVec.ofInt 8 1).toNat : Int)))
        else none
      else none
    else none
  else none
else
  bif bif bif x.cls == 6 then true else x.cls == 7 then x.v == 1 else false then
    bif inR x.cell x.cells_len then
      bif decide (x.cells_lo + x.cell.toNat < x.xs.length) then
        some (x.cls, x.cell, x.other, x.cells_lo, x.cells_len, x.intact, x.xs.set (x.cells_lo + x.cell.toNat) (IntKind.u8.wrap (x.cls - 6)))
      else none
    else none
  else
    bif bif bif x.cls == 8 then true else x.cls == 9 then x.v == 0 else false then
      bif inR x.cell x.cells_len then
        bif decide (x.cells_lo + x.cell.toNat < x.xs.length) then
          some (x.cls, x.cell, x.other, x.cells_lo, x.cells_len, x.intact, x.xs.set (x.cells_lo + x.cell.toNat) (IntKind.u8.wrap (x.cls - 8)))
        else none
      else none
    else some (x.cls, x.cell, x.other, x.cells_lo, x.cells_len, x.intact, x.xs)
theorem m_eq (x : gX) : exec E0 108 C38 0 (initS 0 (g.A x)) (g.H x) (finish 2 ty [] f) = m x := by kernel_rfl
theorem tl : topL C38 0 = [] := by kernel_rfl
theorem known : Known Try.prog 38 g f m :=
  mk_known mixed (env_ok ty_ok cl_ok _) s38 rfl rfl tl AllL.nil (fun _ _ => ⟨rfl, rfl⟩) (fun _ _ => ⟨rfl, rfl⟩) m_eq
def con : Con := conG g [.arg 0 0, .cell 0 3] f m default
theorem con_ok : ConOk Try.prog 38 con := conG_ok known
end F38
namespace F30
structure gX where
  x : Int
  v : Int
  cls : Int
  cell : Int
  other : Int
  cells_lo : Nat
  cells_len : Nat
  intact : Bool
  xs : List (Int)

def g : Sg gX where
  vs := [.c (.ptr 0 0), .c (.it .i64), .c (.it .u8)]
  h := [.st [.it .u8, .it .i64, .it .i64, .sl 1 0 1, .bo] 1 0, .arr (.int .u8) 0]
  to := fun a b => ⟨a.2.1, a.2.2.1, b.1.1, b.1.2.1, b.1.2.2.1, b.1.2.2.2.1.1, b.1.2.2.2.1.2, b.1.2.2.2.2.1, b.2.1⟩
  fa := fun x => ((), (x.x, (x.v, ())))
  fh := fun x => ((x.cls, (x.cell, (x.other, ((x.cells_lo, x.cells_len), (x.intact, ()))))), (x.xs, ()))
abbrev fY := Int × Int × Int × Nat × Nat × Bool × List (Int)
def f : Ft fY where
  ord := none
  sh := .tup []
  h := [.st [.it .u8, .it .i64, .it .i64, .sl 1 0 1, .bo] 1 0, .arr (.int .u8) 0]
  to := fun a b => (b.1.1, b.1.2.1, b.1.2.2.1, b.1.2.2.2.1.1, b.1.2.2.2.1.2, b.1.2.2.2.2.1, b.2.1)
  fv := fun y => ()
  fh := fun y => ((y.1, (y.2.1, (y.2.2.1, ((y.2.2.2.1, y.2.2.2.2.1), (y.2.2.2.2.2.1, ()))))), (y.2.2.2.2.2.2, ()))
def cl : List (FuncId × Con) := [(22, F22.con), (37, F37.con), (38, F38.con)]
theorem cl_ok : allCon Try.prog cl := ⟨F22.con_ok, F37.con_ok, F38.con_ok, trivial⟩
def E0 : Env := ⟨ty, cfOf cl, fun _ => none⟩
def m (x : gX) : Option fY :=
  bif inR x.x x.cells_len then
  bif decide (x.cells_lo + x.x.toNat < x.xs.length) then
    bif x.intact then
      bif inR x.x x.cells_len then
        bif decide (x.cells_lo + x.x.toNat < x.xs.length) then some (x.cls, x.cell, x.other, x.cells_lo, x.cells_len, x.intact, x.xs.set (x.cells_lo + x.x.toNat) x.v) else none
      else none
    else
      bif x.x == x.cell then
        bif
            bif decide (x.cls ≤ 1) then decide (x.cls ≤ 1)
            else bif bif x.cls == 2 then x.v == 1 else false then bif x.cls == 2 then x.v == 1 else false else bif x.cls == 3 then x.v == 0 else false then
          some (x.cls, x.cell, x.other, x.cells_lo, x.cells_len, x.intact, x.xs)
        else
          bif inR x.x x.cells_len then
            bif decide (x.cells_lo + x.x.toNat < x.xs.length) then
              bindO (bif bif x.x == x.other then x.v != x.xs[x.cells_lo + x.x.toNat]?.getD 0 else false then F22.m { c := x.cls } else some false) fun y =>
                bif bif bif x.x == x.other then x.v != x.xs[x.cells_lo + x.x.toNat]?.getD 0 else false then !y else false then
                  bindO
                    (F38.m
                      { v := x.v, cls := x.cls, cell := x.cell, other := x.other, cells_lo := x.cells_lo, cells_len := x.cells_len, intact := x.intact,
                        xs := x.xs.set (x.cells_lo + x.x.toNat) x.v })
                    fun y =>
                    bindO
                      (F37.m
                        { cls := y.fst, cell := y.snd.fst, other := y.snd.snd.fst, cells_lo := y.snd.snd.snd.fst, cells_len := y.snd.snd.snd.snd.fst,
                          intact := y.snd.snd.snd.snd.snd.fst, xs := y.snd.snd.snd.snd.snd.snd })
                      fun y => some (y.fst, y.snd.fst, y.snd.snd.fst, y.snd.snd.snd.fst, y.snd.snd.snd.snd.fst, y.snd.snd.snd.snd.snd.fst, y.snd.snd.snd.snd.snd.snd)
                else
                  bindO
                    (F37.m
                      { cls := x.cls, cell := x.cell, other := x.other, cells_lo := x.cells_lo, cells_len := x.cells_len, intact := x.intact,
                        xs := x.xs.set (x.cells_lo + x.x.toNat) x.v })
                    fun y => some (y.fst, y.snd.fst, y.snd.snd.fst, y.snd.snd.snd.fst, y.snd.snd.snd.snd.fst, y.snd.snd.snd.snd.snd.fst, y.snd.snd.snd.snd.snd.snd)
            else none
          else none
      else
        bif inR x.x x.cells_len then
          bif decide (x.cells_lo + x.x.toNat < x.xs.length) then
            bindO (bif bif x.x == x.other then x.v != x.xs[x.cells_lo + x.x.toNat]?.getD 0 else false then F22.m { c := x.cls } else some false) fun y =>
              bif bif bif x.x == x.other then x.v != x.xs[x.cells_lo + x.x.toNat]?.getD 0 else false then !y else false then
                bindO
                  (F38.m
                    { v := x.v, cls := x.cls, cell := x.cell, other := x.other, cells_lo := x.cells_lo, cells_len := x.cells_len, intact := x.intact,
                      xs := x.xs.set (x.cells_lo + x.x.toNat) x.v })
                  fun y =>
                  bindO
                    (F37.m
                      { cls := y.fst, cell := y.snd.fst, other := y.snd.snd.fst, cells_lo := y.snd.snd.snd.fst, cells_len := y.snd.snd.snd.snd.fst,
                        intact := y.snd.snd.snd.snd.snd.fst, xs := y.snd.snd.snd.snd.snd.snd })
                    fun y => some (y.fst, y.snd.fst, y.snd.snd.fst, y.snd.snd.snd.fst, y.snd.snd.snd.snd.fst, y.snd.snd.snd.snd.snd.fst, y.snd.snd.snd.snd.snd.snd)
              else
                bindO
                  (F37.m
                    { cls := x.cls, cell := x.cell, other := x.other, cells_lo := x.cells_lo, cells_len := x.cells_len, intact := x.intact,
                      xs := x.xs.set (x.cells_lo + x.x.toNat) x.v })
                  fun y => some (y.fst, y.snd.fst, y.snd.snd.fst, y.snd.snd.snd.fst, y.snd.snd.snd.snd.fst, y.snd.snd.snd.snd.snd.fst, y.snd.snd.snd.snd.snd.snd)
          else none
        else none
  else none
else none
theorem m_eq (x : gX) : exec E0 92 C30 0 (initS 0 (g.A x)) (g.H x) (finish 2 ty [] f) = m x := by kernel_rfl
theorem tl : topL C30 0 = [] := by kernel_rfl
theorem known : Known Try.prog 30 g f m :=
  mk_known mixed (env_ok ty_ok cl_ok _) s30 rfl rfl tl AllL.nil (fun _ _ => ⟨rfl, rfl⟩) (fun _ _ => ⟨rfl, rfl⟩) m_eq
def con : Con := conG g [.arg 0 0, .cell 0 3] f m default
theorem con_ok : ConOk Try.prog 30 con := conG_ok known
end F30
end Go.Proofs.Ythchfbanjeiieaa
/-
  The functions of defects, run on symbolic values.
-/
set_option linter.unusedSimpArgs false
set_option linter.unusedVariables false
namespace Go.Proofs.Ythchfbanjeiieaa
open Go.Abs

set_option maxRecDepth 100000
namespace F21
structure gX where
  cls : Int
  cell : Int
  other : Int
  n : Int

def g : Sg gX where
  vs := [.agg [.it .u8, .it .i64, .it .i64], .c (.it .i64)]
  h := []
  to := fun a b => ⟨a.1.1, a.1.2.1, a.1.2.2.1, a.2.1⟩
  fa := fun x => ((x.cls, (x.cell, (x.other, ()))), (x.n, ()))
  fh := fun x => ()
abbrev fY := Int
def f : Ft fY where
  ord := none
  sh := .c (.it .i64)
  h := []
  to := fun a b => (a)
  fv := fun y => y
  fh := fun y => ()
def cl : List (FuncId × Con) := [(22, F22.con), (34, F34.con)]
theorem cl_ok : allCon Try.prog cl := ⟨F22.con_ok, F34.con_ok, trivial⟩
def E0 : Env := ⟨ty, cfOf cl, fun _ => none⟩
def m (x : gX) : Option fY :=
  bif decide (x.n < 1) then some 1
else
  bif decide (x.n > 1024) then some 3
  else
    bindO (bif !decide (x.cls ≥ 19) then F34.m { a := x.cell, n := x.n } else some (false, Int.ofNat 0)) fun y =>
      bif bif decide (x.cls ≥ 19) then true else !y.fst then some 1
      else
        bindO (F22.m { c := x.cls }) fun y =>
          bif bif y then x.other != 0 else false then bif bif y then x.other != 0 else false then some 1 else some 0
          else
            bindO (F22.m { c := x.cls }) fun y =>
              bindO (bif !y then F34.m { a := x.other, n := x.n } else some (false, Int.ofNat 0)) fun y_1 =>
                bif bif !y then bif !y_1.fst then true else x.other == x.cell else false then some 1 else some 0
theorem m_eq (x : gX) : exec E0 51 C21 0 (initS 0 (g.A x)) (g.H x) (finish 0 ty [.tmp 4] f) = m x := by kernel_rfl
theorem tl : topL C21 0 = [] := by kernel_rfl
theorem known : Known Try.prog 21 g f m :=
  mk_known mixed (env_ok ty_ok cl_ok _) s21 rfl rfl tl AllL.nil (fun _ _ => ⟨rfl, rfl⟩) (fun _ _ => ⟨rfl, rfl⟩) m_eq
def con : Con := conT g f m default
theorem con_ok : ConOk Try.prog 21 con := conT_ok known (fun _ => rfl) rfl
end F21
namespace F20
structure gX where
  cls : Int
  cell : Int
  other : Int
  n : Int

def g : Sg gX where
  vs := [.c (.it .i64), .c (.it .i64), .c (.it .i64), .c (.it .i64)]
  h := []
  to := fun a b => ⟨a.1, a.2.1, a.2.2.1, a.2.2.2.1⟩
  fa := fun x => (x.cls, (x.cell, (x.other, (x.n, ()))))
  fh := fun x => ()
abbrev fY := Bool
def f : Ft fY where
  ord := none
  sh := .c (.bo)
  h := []
  to := fun a b => (a)
  fv := fun y => y
  fh := fun y => ()
def cl : List (FuncId × Con) := []
theorem cl_ok : allCon Try.prog cl := trivial
def E0 : Env := ⟨ty, cfOf cl, fun _ => none⟩
def m (x : gX) : Option fY :=
  bif bif bif bif decide (x.cls < 0) then true else decide (x.cls > 18) then true else decide (x.cell < 0) then true else decide (x.cell ≥ x.n) then some false
else
  bif bif bif decide (x.cls ≤ 3) then true else x.cls == 14 then true else x.cls == 15 then some (x.other == 0)
  else some (bif bif decide (x.other ≥ 0) then decide (x.other < x.n) else false then x.other != x.cell else false)
theorem m_eq (x : gX) : exec E0 48 C20 0 (initS 0 (g.A x)) (g.H x) (finish 0 ty [.tmp 8] f) = m x := by kernel_rfl
theorem tl : topL C20 0 = [] := by kernel_rfl
theorem known : Known Try.prog 20 g f m :=
  mk_known mixed (env_ok ty_ok cl_ok _) s20 rfl rfl tl AllL.nil (fun _ _ => ⟨rfl, rfl⟩) (fun _ _ => ⟨rfl, rfl⟩) m_eq
def con : Con := conT g f m default
theorem con_ok : ConOk Try.prog 20 con := conT_ok known (fun _ => rfl) rfl
end F20
namespace F24
structure gX where
  start : List (Int)
  d : List ((Int) × (Int) × Int)

def g : Sg gX where
  vs := [.c (.arr (.int .u8)), .c (.arr (.pair (.int .u8) (.pair (.int .i64) (.int .i64))))]
  h := []
  to := fun a b => ⟨a.1, a.2.1⟩
  fa := fun x => (x.start, (x.d, ()))
  fh := fun x => ()
abbrev fY := Int × Int × Int × Int × Nat × Nat × Bool × List (Int)
def f : Ft fY where
  ord := some [1, 0]
  sh := .tup [.inl (.ptr 0 0), .inl (.it .i64)]
  h := [.st [.it .u8, .it .i64, .it .i64, .sl 1 0 1, .bo] 1 0, .arr (.int .u8) 0]
  to := fun a b => (a.2.1, b.1.1, b.1.2.1, b.1.2.2.1, b.1.2.2.2.1.1, b.1.2.2.2.1.2, b.1.2.2.2.2.1, b.2.1)
  fv := fun y => ((), (y.1, ()))
  fh := fun y => ((y.2.1, (y.2.2.1, (y.2.2.2.1, ((y.2.2.2.2.1, y.2.2.2.2.2.1), (y.2.2.2.2.2.2.1, ()))))), (y.2.2.2.2.2.2.2, ()))
noncomputable def cl : List (FuncId × Con) := [(35, F35.con), (33, F33.con), (21, F21.con), (37, F37.con)]
theorem cl_ok : allCon Try.prog cl := ⟨F35.con_ok, F33.con_ok, F21.con_ok, F37.con_ok, trivial⟩
noncomputable def E1 : Env := ⟨ty, cfOf cl, fun _ => none⟩
structure p0X where
  start : List (Int)
  d : List ((Int) × (Int) × Int)
  n : Int
  i : Int
  xs : List (Int)
  cls : Int
  cell : Int
  other : Int
  cells_lo : Nat
  cells_len : Nat
  intact : Bool

def p0 : Pt p0X where
  own := []
  t := ⟨[(0, .c (.arr (.int .u8))), (6, .c (.ptr 1 0)), (32, .c (.arr (.pair (.int .u8) (.pair (.int .i64) (.int .i64))))), (33, .c (.it .i64)), (34, .c (.it .i64))], [.arr (.int .u8) 0, .st [.it .u8, .it .i64, .it .i64, .sl 0 0 1, .bo] 1 0]⟩
  to := fun v => ⟨v.1.1, v.1.2.2.1, v.1.2.2.2.1, v.1.2.2.2.2.1, v.2.1, v.2.2.1.1, v.2.2.1.2.1, v.2.2.1.2.2.1, v.2.2.1.2.2.2.1.1, v.2.2.1.2.2.2.1.2, v.2.2.1.2.2.2.2.1⟩
  fr := fun x => ((x.start, ((), (x.d, (x.n, (x.i, ()))))), (x.xs, ((x.cls, (x.cell, (x.other, ((x.cells_lo, x.cells_len), (x.intact, ()))))), ())))
structure q0X where
  xs : List (Int)
  cls : Int
  cell : Int
  other : Int
  cells_lo : Nat
  cells_len : Nat
  intact : Bool

def q0 : Pt q0X where
  own := []
  t := ⟨[(6, .c (.ptr 1 0))], [.arr (.int .u8) 0, .st [.it .u8, .it .i64, .it .i64, .sl 0 0 1, .bo] 1 0]⟩
  to := fun v => ⟨v.2.1, v.2.2.1.1, v.2.2.1.2.1, v.2.2.1.2.2.1, v.2.2.1.2.2.2.1.1, v.2.2.1.2.2.2.1.2, v.2.2.1.2.2.2.2.1⟩
  fr := fun x => (((), ()), (x.xs, ((x.cls, (x.cell, (x.other, ((x.cells_lo, x.cells_len), (x.intact, ()))))), ())))
structure z0X where
  e : Int

def z0 : Pt z0X where
  own := []
  t := ⟨[(4, .c (.np)), (5, .c (.it .i64))], []⟩
  to := fun v => ⟨v.1.2.1⟩
  fr := fun x => (((), (x.e, ())), ())
noncomputable def s0 (x : p0X) : Option (p0X ⊕ (q0X ⊕ z0X)) :=
  bif decide (x.i < x.n) then
  bif inR x.i x.d.length then
    bindO
      (F21.m
        { cls := (x.d[x.i.toNat]?.getD (0, 0, 0)).fst, cell := (x.d[x.i.toNat]?.getD (0, 0, 0)).snd.fst, other := (x.d[x.i.toNat]?.getD (0, 0, 0)).snd.snd,
          n := (↑x.start.length : Int) })
      fun y =>
      bif y != 0 then some (Sum.inr (Sum.inr { e := 1 }))
      else
        bif decide ((x.d[x.i.toNat]?.getD (0, 0, 0)).fst ≤ 1) then
          bif inR (x.d[x.i.toNat]?.getD (0, 0, 0)).snd.fst x.cells_len then
            bif decide (x.cells_lo + Int.toNat (x.d[x.i.toNat]?.getD (0, 0, 0)).snd.fst < x.xs.length) then
              bindO
                (F37.m
                  { cls := (x.d[x.i.toNat]?.getD (0, 0, 0)).fst, cell := (x.d[x.i.toNat]?.getD (0, 0, 0)).snd.fst, other := (x.d[x.i.toNat]?.getD (0, 0, 0)).snd.snd,
                    cells_lo := x.cells_lo, cells_len := x.cells_len, intact := x.intact,
                    xs := x.xs.set (x.cells_lo + Int.toNat (x.d[x.i.toNat]?.getD (0, 0, 0)).snd.fst) (x.d[x.i.toNat]?.getD (0, 0, 0)).fst })
                fun y =>
                some
                  (Sum.inl
                    { start := x.start, d := x.d, n := x.n, i := IntKind.i64.wrap (x.i + 1), xs := y.snd.snd.snd.snd.snd.snd, cls := y.fst, cell := y.snd.fst,
                      other := y.snd.snd.fst, cells_lo := y.snd.snd.snd.fst, cells_len := y.snd.snd.snd.snd.fst, intact := y.snd.snd.snd.snd.snd.fst })
            else none
          else none
        else
          bindO
            (F37.m
              { cls := (x.d[x.i.toNat]?.getD (0, 0, 0)).fst, cell := (x.d[x.i.toNat]?.getD (0, 0, 0)).snd.fst, other := (x.d[x.i.toNat]?.getD (0, 0, 0)).snd.snd,
                cells_lo := x.cells_lo, cells_len := x.cells_len, intact := x.intact, xs := x.xs })
            fun y =>
            some
              (Sum.inl
                { start := x.start, d := x.d, n := x.n, i := IntKind.i64.wrap (x.i + 1), xs := y.snd.snd.snd.snd.snd.snd, cls := y.fst, cell := y.snd.fst, other := y.snd.snd.fst,
                  cells_lo := y.snd.snd.snd.fst, cells_len := y.snd.snd.snd.snd.fst, intact := y.snd.snd.snd.snd.snd.fst })
  else none
else some (Sum.inr (Sum.inl { xs := x.xs, cls := x.cls, cell := x.cell, other := x.other, cells_lo := x.cells_lo, cells_len := x.cells_len, intact := x.intact }))
theorem s0_eq (x : p0X) : exec E1 63 (C24.bodyAt 0) 1 (p0.R x) (p0.H x) (roundK2 0 p0 (.exit 1) q0 .ret z0) = s0 x := by kernel_rfl
noncomputable def l0 : LoopS := mkLoop2 0 p0 (.exit 1) q0 .ret z0 s0
theorem t0 : topL (C24.bodyAt 0) 1 = [] := by kernel_rfl
theorem l0_ok : LoopOkS Try.prog 63 none 0 (C24.bodyAt 0) l0 := mkLoop2_ok mixed (env_ok ty_ok cl_ok _) (by trivial) (by trivial) (fun _ => rfl) (fun _ => rfl) (fun _ => rfl) (t0 ▸ (AllL.nil)) s0_eq
noncomputable def E0 : Env := ⟨ty, cfOf cl, lpOf [(0, l0)]⟩
noncomputable def m (x : gX) : Option fY :=
  bif (↑x.start.length : Int) == 0 then none
else
  bif bif decide ((↑x.start.length : Int) > 1024) then true else decide ((↑x.d.length : Int) > 1) then none
  else
    bindO (F35.m { s := x.start }) fun y =>
      bif y then none
      else
        bindO (F33.m { s := x.start }) fun y =>
          bindO
            (iter s0
              { start := x.start, d := x.d, n := (↑x.d.length : Int), i := 0, xs := y.snd.snd, cls := 0, cell := 0, other := 0, cells_lo := y.fst, cells_len := y.snd.fst,
                intact := (↑x.d.length : Int) == 0 })
            fun s => sumC s (fun y => some (0, y.cls, y.cell, y.other, y.cells_lo, y.cells_len, y.intact, y.xs)) fun z => none
theorem m_eq (x : gX) : exec E0 63 C24 0 (initS 0 (g.A x)) (g.H x) (finish 0 ty [.tmp 4, .tmp 5] f) = m x := by kernel_rfl
theorem tl : topL C24 0 = [(0, C24.bodyAt 0)] := by kernel_rfl
theorem known : Known Try.prog 24 g f m :=
  mk_known mixed (env_ok ty_ok cl_ok _) s24 rfl rfl tl (AllL.cons rfl l0_ok AllL.nil) (fun _ _ => ⟨rfl, rfl⟩) (fun _ _ => ⟨rfl, rfl⟩) m_eq
noncomputable def con : Con := conG g [] f m default
theorem con_ok : ConOk Try.prog 24 con := conG_ok known
end F24
end Go.Proofs.Ythchfbanjeiieaa
/-
  The functions of defects, run on symbolic values.
-/
set_option linter.unusedSimpArgs false
set_option linter.unusedVariables false
namespace Go.Proofs.Ythchfbanjeiieaa
open Go.Abs

set_option maxRecDepth 100000
namespace F15
structure gX where
  addr : Int
  v : Int
  cls : Int
  cell : Int
  other : Int
  cells_lo : Nat
  cells_len : Nat
  intact : Bool
  xs : List (Int)

def g : Sg gX where
  vs := [.c (.ptr 0 0), .c (.it .i64), .c (.it .u8)]
  h := [.st [.it .u8, .it .i64, .it .i64, .sl 1 0 1, .bo] 1 0, .arr (.int .u8) 0]
  to := fun a b => ⟨a.2.1, a.2.2.1, b.1.1, b.1.2.1, b.1.2.2.1, b.1.2.2.2.1.1, b.1.2.2.2.1.2, b.1.2.2.2.2.1, b.2.1⟩
  fa := fun x => ((), (x.addr, (x.v, ())))
  fh := fun x => ((x.cls, (x.cell, (x.other, ((x.cells_lo, x.cells_len), (x.intact, ()))))), (x.xs, ()))
abbrev fY := Int × Int × Int × Int × Nat × Nat × Bool × List (Int)
def f : Ft fY where
  ord := none
  sh := .c (.it .i64)
  h := [.st [.it .u8, .it .i64, .it .i64, .sl 1 0 1, .bo] 1 0, .arr (.int .u8) 0]
  to := fun a b => (a, b.1.1, b.1.2.1, b.1.2.2.1, b.1.2.2.2.1.1, b.1.2.2.2.1.2, b.1.2.2.2.2.1, b.2.1)
  fv := fun y => y.1
  fh := fun y => ((y.2.1, (y.2.2.1, (y.2.2.2.1, ((y.2.2.2.2.1, y.2.2.2.2.2.1), (y.2.2.2.2.2.2.1, ()))))), (y.2.2.2.2.2.2.2, ()))
def cl : List (FuncId × Con) := [(27, F27.con), (28, F28.con), (29, F29.con), (30, F30.con)]
theorem cl_ok : allCon Try.prog cl := ⟨F27.con_ok, F28.con_ok, F29.con_ok, F30.con_ok, trivial⟩
def E1 : Env := ⟨ty, cfOf cl, fun _ => none⟩
structure p0X where
  v : Int
  l : List (Int)
  n : Int
  i : Int
  cls : Int
  cell : Int
  other : Int
  cells_lo : Nat
  cells_len : Nat
  intact : Bool
  xs : List (Int)

def p0 : Pt p0X where
  own := []
  t := ⟨[(0, .c (.ptr 0 0)), (2, .c (.it .u8)), (25, .c (.arr (.int .i64))), (26, .c (.it .i64)), (27, .c (.it .i64))], [.st [.it .u8, .it .i64, .it .i64, .sl 1 0 1, .bo] 1 0, .arr (.int .u8) 0]⟩
  to := fun v => ⟨v.1.2.1, v.1.2.2.1, v.1.2.2.2.1, v.1.2.2.2.2.1, v.2.1.1, v.2.1.2.1, v.2.1.2.2.1, v.2.1.2.2.2.1.1, v.2.1.2.2.2.1.2, v.2.1.2.2.2.2.1, v.2.2.1⟩
  fr := fun x => (((), (x.v, (x.l, (x.n, (x.i, ()))))), ((x.cls, (x.cell, (x.other, ((x.cells_lo, x.cells_len), (x.intact, ()))))), (x.xs, ())))
structure q0X where
  cls : Int
  cell : Int
  other : Int
  cells_lo : Nat
  cells_len : Nat
  intact : Bool
  xs : List (Int)

def q0 : Pt q0X where
  own := []
  t := ⟨[], [.st [.it .u8, .it .i64, .it .i64, .sl 1 0 1, .bo] 1 0, .arr (.int .u8) 0]⟩
  to := fun v => ⟨v.2.1.1, v.2.1.2.1, v.2.1.2.2.1, v.2.1.2.2.2.1.1, v.2.1.2.2.2.1.2, v.2.1.2.2.2.2.1, v.2.2.1⟩
  fr := fun x => ((), ((x.cls, (x.cell, (x.other, ((x.cells_lo, x.cells_len), (x.intact, ()))))), (x.xs, ())))
def s0 (x : p0X) : Option (p0X ⊕ q0X) :=
  bif decide (x.i < x.n) then
  bif inR x.i x.l.length then
    bindO
      (F30.m
        { x := x.l[x.i.toNat]?.getD 0, v := x.v, cls := x.cls, cell := x.cell, other := x.other, cells_lo := x.cells_lo, cells_len := x.cells_len, intact := x.intact, xs := x.xs })
      fun y =>
      some
        (Sum.inl
          { v := x.v, l := x.l, n := x.n, i := IntKind.i64.wrap (x.i + 1), cls := y.fst, cell := y.snd.fst, other := y.snd.snd.fst, cells_lo := y.snd.snd.snd.fst,
            cells_len := y.snd.snd.snd.snd.fst, intact := y.snd.snd.snd.snd.snd.fst, xs := y.snd.snd.snd.snd.snd.snd })
  else none
else some (Sum.inr { cls := x.cls, cell := x.cell, other := x.other, cells_lo := x.cells_lo, cells_len := x.cells_len, intact := x.intact, xs := x.xs })
theorem s0_eq (x : p0X) : exec E1 36 (C15.bodyAt 0) 1 (p0.R x) (p0.H x) (roundK 2 p0 (.exit 0) q0) = s0 x := by kernel_rfl
noncomputable def l0 : LoopS := mkLoop 2 p0 (.exit 0) q0 s0
theorem t0 : topL (C15.bodyAt 0) 1 = [] := by kernel_rfl
theorem l0_ok : LoopOkS Try.prog 36 none 2 (C15.bodyAt 0) l0 := mkLoop_ok mixed (env_ok ty_ok cl_ok _) (by trivial) (fun _ => rfl) (fun _ => rfl) (t0 ▸ (AllL.nil)) s0_eq
noncomputable def E0 : Env := ⟨ty, cfOf cl, lpOf [(0, l0)]⟩
noncomputable def m (x : gX) : Option fY :=
  bindO (F27.m { addr := x.addr, cls := x.cls, cell := x.cell, other := x.other, cells_lo := x.cells_lo, cells_len := x.cells_len, intact := x.intact, xs := x.xs }) fun y =>
  bindO (bif y.fst == 0 then F28.m { v := x.v } else some false) fun y_1 =>
    bif (bif bif y.fst == 0 then !y_1 else false then 1 else y.fst) != 0 then
      some
        (bif bif y.fst == 0 then !y_1 else false then 1 else y.fst, y.snd.fst, y.snd.snd.fst, y.snd.snd.snd.fst, y.snd.snd.snd.snd.fst, y.snd.snd.snd.snd.snd.fst,
          y.snd.snd.snd.snd.snd.snd.fst, y.snd.snd.snd.snd.snd.snd.snd)
    else
      bindO
        (F29.m
          { addr := x.addr, cls := y.snd.fst, cell := y.snd.snd.fst, other := y.snd.snd.snd.fst, cells_lo := y.snd.snd.snd.snd.fst, cells_len := y.snd.snd.snd.snd.snd.fst,
            intact := y.snd.snd.snd.snd.snd.snd.fst, xs := y.snd.snd.snd.snd.snd.snd.snd })
        fun y =>
        bindO
          (iter s0
            { v := x.v, l := y.fst, n := (↑y.fst.length : Int), i := 0, cls := y.snd.fst, cell := y.snd.snd.fst, other := y.snd.snd.snd.fst, cells_lo := y.snd.snd.snd.snd.fst,
              cells_len := y.snd.snd.snd.snd.snd.fst, intact := y.snd.snd.snd.snd.snd.snd.fst, xs := y.snd.snd.snd.snd.snd.snd.snd })
          fun y => some (0, y.cls, y.cell, y.other, y.cells_lo, y.cells_len, y.intact, y.xs)
theorem m_eq (x : gX) : exec E0 36 C15 0 (initS 0 (g.A x)) (g.H x) (finish 2 ty [.tmp 6] f) = m x := by kernel_rfl
theorem tl : topL C15 0 = [(0, C15.bodyAt 0)] := by kernel_rfl
theorem known : Known Try.prog 15 g f m :=
  mk_known mixed (env_ok ty_ok cl_ok _) s15 rfl rfl tl (AllL.cons rfl l0_ok AllL.nil) (fun _ _ => ⟨rfl, rfl⟩) (fun _ _ => ⟨rfl, rfl⟩) m_eq
noncomputable def con : Con := conG g [.arg 0 0, .cell 0 3] f m default
theorem con_ok : ConOk Try.prog 15 con := conG_ok known
end F15
namespace F17
structure gX where
  addr : Int
  cls : Int
  cell : Int
  other : Int
  cells_lo : Nat
  cells_len : Nat
  intact : Bool
  xs : List (Int)

def g : Sg gX where
  vs := [.c (.ptr 0 0), .c (.it .i64)]
  h := [.st [.it .u8, .it .i64, .it .i64, .sl 1 0 1, .bo] 1 0, .arr (.int .u8) 0]
  to := fun a b => ⟨a.2.1, b.1.1, b.1.2.1, b.1.2.2.1, b.1.2.2.2.1.1, b.1.2.2.2.1.2, b.1.2.2.2.2.1, b.2.1⟩
  fa := fun x => ((), (x.addr, ()))
  fh := fun x => ((x.cls, (x.cell, (x.other, ((x.cells_lo, x.cells_len), (x.intact, ()))))), (x.xs, ()))
abbrev fY := Int × Int × Int × Int × Int × Nat × Nat × Bool × List (Int)
def f : Ft fY where
  ord := none
  sh := .tup [.inl (.it .u8), .inl (.it .i64)]
  h := [.st [.it .u8, .it .i64, .it .i64, .sl 1 0 1, .bo] 1 0, .arr (.int .u8) 0]
  to := fun a b => (a.1, a.2.1, b.1.1, b.1.2.1, b.1.2.2.1, b.1.2.2.2.1.1, b.1.2.2.2.1.2, b.1.2.2.2.2.1, b.2.1)
  fv := fun y => (y.1, (y.2.1, ()))
  fh := fun y => ((y.2.2.1, (y.2.2.2.1, (y.2.2.2.2.1, ((y.2.2.2.2.2.1, y.2.2.2.2.2.2.1), (y.2.2.2.2.2.2.2.1, ()))))), (y.2.2.2.2.2.2.2.2, ()))
def cl : List (FuncId × Con) := [(27, F27.con), (29, F29.con)]
theorem cl_ok : allCon Try.prog cl := ⟨F27.con_ok, F29.con_ok, trivial⟩
def E0 : Env := ⟨ty, cfOf cl, fun _ => none⟩
def m (x : gX) : Option fY :=
  bindO (F27.m { addr := x.addr, cls := x.cls, cell := x.cell, other := x.other, cells_lo := x.cells_lo, cells_len := x.cells_len, intact := x.intact, xs := x.xs }) fun y =>
  bif y.fst != 0 then
    some (0, y.fst, y.snd.fst, y.snd.snd.fst, y.snd.snd.snd.fst, y.snd.snd.snd.snd.fst, y.snd.snd.snd.snd.snd.fst, y.snd.snd.snd.snd.snd.snd.fst, y.snd.snd.snd.snd.snd.snd.snd)
  else
    bindO
      (F29.m
        { addr := x.addr, cls := y.snd.fst, cell := y.snd.snd.fst, other := y.snd.snd.snd.fst, cells_lo := y.snd.snd.snd.snd.fst, cells_len := y.snd.snd.snd.snd.snd.fst,
          intact := y.snd.snd.snd.snd.snd.snd.fst, xs := y.snd.snd.snd.snd.snd.snd.snd })
      fun y =>
      bif (↑y.fst.length : Int) == 0 then
        some
          (IntKind.u8.wrap (y.snd.fst - 14), 0, y.snd.fst, y.snd.snd.fst, y.snd.snd.snd.fst, y.snd.snd.snd.snd.fst, y.snd.snd.snd.snd.snd.fst, y.snd.snd.snd.snd.snd.snd.fst,
            y.snd.snd.snd.snd.snd.snd.snd)
      else
        bif bif (↑y.fst.length : Int) == 2 then y.snd.fst == 17 else false then
          bif inR 0 y.fst.length then
            bif inR (y.fst[0]?.getD 0) y.snd.snd.snd.snd.snd.fst then
              bif decide (y.snd.snd.snd.snd.fst + Int.toNat (y.fst[0]?.getD 0) < y.snd.snd.snd.snd.snd.snd.snd.length) then
                bif inR 1 y.fst.length then
                  bif inR (y.fst[1]?.getD 0) y.snd.snd.snd.snd.snd.fst then
                    bif decide (y.snd.snd.snd.snd.fst + Int.toNat (y.fst[1]?.getD 0) < y.snd.snd.snd.snd.snd.snd.snd.length) then
                      some
                        (IntKind.u8.wrap
                            (↑(BitVec.ofInt 8 (y.snd.snd.snd.snd.snd.snd.snd[y.snd.snd.snd.snd.fst + Int.toNat (y.fst[0]?.getD 0)]?.getD 0) &&&
                                    BitVec.ofInt 8 (y.snd.snd.snd.snd.snd.snd.snd[y.snd.snd.snd.snd.fst + Int.toNat (y.fst[1]?.getD 0)]?.getD 0)).toNat :
                              Int),
                          0, y.snd.fst, y.snd.snd.fst, y.snd.snd.snd.fst, y.snd.snd.snd.snd.fst, y.snd.snd.snd.snd.snd.fst, y.snd.snd.snd.snd.snd.snd.fst,
                          y.snd.snd.snd.snd.snd.snd.snd)
                    else none
                  else none
                else none
              else none
            else none
          else none
        else
          bif (↑y.fst.length : Int) == 2 then
            bif inR 0 y.fst.length then
              bif inR (y.fst[0]?.getD 0) y.snd.snd.snd.snd.snd.fst then
                bif decide (y.snd.snd.snd.snd.fst + Int.toNat (y.fst[0]?.getD 0) < y.snd.snd.snd.snd.snd.snd.snd.length) then
                  bif inR 1 y.fst.length then
                    bif inR (y.fst[1]?.getD 0) y.snd.snd.snd.snd.snd.fst then
                      bif decide (y.snd.snd.snd.snd.fst + Int.toNat (y.fst[1]?.getD 0) < y.snd.snd.snd.snd.snd.snd.snd.length) then
                        some
                          (IntKind.u8.wrap
                              (↑(BitVec.ofInt 8 (y.snd.snd.snd.snd.snd.snd.snd[y.snd.snd.snd.snd.fst + Int.toNat (y.fst[0]?.getD 0)]?.getD 0) |||
                                      BitVec.ofInt 8 (y.snd.snd.snd.snd.snd.snd.snd[y.snd.snd.snd.snd.fst + Int.toNat (y.fst[1]?.getD 0)]?.getD 0)).toNat :
                                Int),
                            0, y.snd.fst, y.snd.snd.fst, y.snd.snd.snd.fst, y.snd.snd.snd.snd.fst, y.snd.snd.snd.snd.snd.fst, y.snd.snd.snd.snd.snd.snd.fst,
                            y.snd.snd.snd.snd.snd.snd.snd)
                      else none
                    else none
                  else none
                else none
              else none
            else none
          else
            bif inR 0 y.fst.length then
              bif inR (y.fst[0]?.getD 0) y.snd.snd.snd.snd.snd.fst then
                bif decide (y.snd.snd.snd.snd.fst + Int.toNat (y.fst[0]?.getD 0) < y.snd.snd.snd.snd.snd.snd.snd.length) then
                  some
                    (y.snd.snd.snd.snd.snd.snd.snd[y.snd.snd.snd.snd.fst + Int.toNat (y.fst[0]?.getD 0)]?.getD 0, 0, y.snd.fst, y.snd.snd.fst, y.snd.snd.snd.fst,
                      y.snd.snd.snd.snd.fst, y.snd.snd.snd.snd.snd.fst, y.snd.snd.snd.snd.snd.snd.fst, y.snd.snd.snd.snd.snd.snd.snd)
                else none
              else none
            else none
theorem m_eq (x : gX) : exec E0 90 C17 0 (initS 0 (g.A x)) (g.H x) (finish 2 ty [.tmp 4, .tmp 5] f) = m x := by kernel_rfl
theorem tl : topL C17 0 = [] := by kernel_rfl
theorem known : Known Try.prog 17 g f m :=
  mk_known mixed (env_ok ty_ok cl_ok _) s17 rfl rfl tl AllL.nil (fun _ _ => ⟨rfl, rfl⟩) (fun _ _ => ⟨rfl, rfl⟩) m_eq
def con : Con := conG g [.arg 0 0, .cell 0 3] f m default
theorem con_ok : ConOk Try.prog 17 con := conG_ok known
end F17
namespace F19
structure gX where
  cls : Int
  cell : Int
  other : Int
  cells_lo : Nat
  cells_len : Nat
  intact : Bool
  xs : List (Int)

def g : Sg gX where
  vs := [.c (.ptr 0 0)]
  h := [.st [.it .u8, .it .i64, .it .i64, .sl 1 0 1, .bo] 1 0, .arr (.int .u8) 0]
  to := fun a b => ⟨b.1.1, b.1.2.1, b.1.2.2.1, b.1.2.2.2.1.1, b.1.2.2.2.1.2, b.1.2.2.2.2.1, b.2.1⟩
  fa := fun x => ((), ())
  fh := fun x => ((x.cls, (x.cell, (x.other, ((x.cells_lo, x.cells_len), (x.intact, ()))))), (x.xs, ()))
abbrev fY := Nat × Nat × Nat × Int × Int × Int × Nat × Nat × Bool × List (Int) × List (Int)
def f : Ft fY where
  ord := none
  sh := .c (.slc 2 0 1)
  h := [.st [.it .u8, .it .i64, .it .i64, .sl 1 0 1, .bo] 1 0, .arr (.int .u8) 0, .arr (.int .u8) 0]
  to := fun a b => (a.1, a.2.1, a.2.2, b.1.1, b.1.2.1, b.1.2.2.1, b.1.2.2.2.1.1, b.1.2.2.2.1.2, b.1.2.2.2.2.1, b.2.1, b.2.2.1)
  fv := fun y => (y.1, y.2.1, y.2.2.1)
  fh := fun y => ((y.2.2.2.1, (y.2.2.2.2.1, (y.2.2.2.2.2.1, ((y.2.2.2.2.2.2.1, y.2.2.2.2.2.2.2.1), (y.2.2.2.2.2.2.2.2.1, ()))))), (y.2.2.2.2.2.2.2.2.2.1, (y.2.2.2.2.2.2.2.2.2.2, ())))
def cl : List (FuncId × Con) := [(33, F33o.con), (32, F32.con)]
theorem cl_ok : allCon Try.prog cl := ⟨F33o.con_ok, F32.con_ok, trivial⟩
def E0 : Env := ⟨ty, cfOf cl, fun _ => none⟩
def m (x : gX) : Option fY :=
  bindO (F33o.m { s_lo := x.cells_lo, s_len := x.cells_len, xs := x.xs }) fun y =>
  bindO (F32.m { s_lo := y.fst, s_len := y.snd.fst, xs := y.snd.snd.snd }) fun y_1 =>
    some (y_1.fst, y_1.snd.fst, y_1.snd.snd.fst, x.cls, x.cell, x.other, x.cells_lo, x.cells_len, x.intact, y.snd.snd.fst, y_1.snd.snd.snd)
theorem m_eq (x : gX) : exec E0 11 C19 0 (initS 0 (g.A x)) (g.H x) (finish 2 ty [.tmp 2] f) = m x := by kernel_rfl
theorem tl : topL C19 0 = [] := by kernel_rfl
theorem known : Known Try.prog 19 g f m :=
  mk_known mixed (env_ok ty_ok cl_ok _) s19 rfl rfl tl AllL.nil (fun _ _ => ⟨rfl, rfl⟩) (fun _ _ => ⟨rfl, rfl⟩) m_eq
def con : Con := conG g [.arg 0 0, .cell 0 3] f m default
theorem con_ok : ConOk Try.prog 19 con := conG_ok known
end F19
end Go.Proofs.Ythchfbanjeiieaa
/-
  The functions of defects, run on symbolic values.
-/
set_option linter.unusedSimpArgs false
set_option linter.unusedVariables false
namespace Go.Proofs.Ythchfbanjeiieaa
open Go.Abs

set_option maxRecDepth 100000
namespace F26
structure gX where
  c_lo : Nat
  c_len : Nat
  cls : Int
  cell : Int
  other : Int
  xs : List (Int)

def g : Sg gX where
  vs := [.agg [.sl 0 0 1, .it .i64, .it .i64, .it .i64]]
  h := [.arr (.int .i64) 0]
  to := fun a b => ⟨a.1.1.1, a.1.1.2, a.1.2.1, a.1.2.2.1, a.1.2.2.2.1, b.1⟩
  fa := fun x => (((x.c_lo, x.c_len), (x.cls, (x.cell, (x.other, ())))), ())
  fh := fun x => (x.xs, ())
abbrev fY := Nat × Nat × Int × Int × Int × List (Int)
def f : Ft fY where
  ord := none
  sh := .agg [.sl 0 0 1, .it .i64, .it .i64, .it .i64]
  h := [.arr (.int .i64) 0]
  to := fun a b => (a.1.1, a.1.2, a.2.1, a.2.2.1, a.2.2.2.1, b.1)
  fv := fun y => ((y.1, y.2.1), (y.2.2.1, (y.2.2.2.1, (y.2.2.2.2.1, ()))))
  fh := fun y => (y.2.2.2.2.2, ())
def cl : List (FuncId × Con) := []
theorem cl_ok : allCon Try.prog cl := trivial
def E0 : Env := ⟨ty, cfOf cl, fun _ => none⟩
def m (x : gX) : Option fY :=
  bif x.cls == 0 then
  bif inR x.cell x.c_len then bif decide (x.c_lo + x.cell.toNat < x.xs.length) then some (x.c_lo, x.c_len, x.cls, x.cell, x.other, x.xs.set (x.c_lo + x.cell.toNat) 0) else none
  else none
else
  bif x.cls == 1 then
    bif inR x.cell x.c_len then bif decide (x.c_lo + x.cell.toNat < x.xs.length) then some (x.c_lo, x.c_len, x.cls, x.cell, x.other, x.xs.set (x.c_lo + x.cell.toNat) 1) else none
    else none
  else
    bif bif x.cls == 10 then x.cls == 10 else x.cls == 11 then
      bif inR x.other x.c_len then
        bif decide (x.c_lo + x.other.toNat < x.xs.length) then
          bif x.xs[x.c_lo + x.other.toNat]?.getD 0 == 0 then
            bif inR x.cell x.c_len then
              bif decide (x.c_lo + x.cell.toNat < x.xs.length) then some (x.c_lo, x.c_len, x.cls, x.cell, x.other, x.xs.set (x.c_lo + x.cell.toNat) (IntKind.i64.wrap (x.cls - 10)))
              else none
            else none
          else some (x.c_lo, x.c_len, x.cls, x.cell, x.other, x.xs)
        else none
      else none
    else
      bif bif x.cls == 12 then x.cls == 12 else x.cls == 13 then
        bif inR x.other x.c_len then
          bif decide (x.c_lo + x.other.toNat < x.xs.length) then
            bif x.xs[x.c_lo + x.other.toNat]?.getD 0 == 1 then
              bif inR x.cell x.c_len then
                bif decide (x.c_lo + x.cell.toNat < x.xs.length) then
                  some (x.c_lo, x.c_len, x.cls, x.cell, x.other, x.xs.set (x.c_lo + x.cell.toNat) (IntKind.i64.wrap (x.cls - 12)))
                else none
              else none
            else some (x.c_lo, x.c_len, x.cls, x.cell, x.other, x.xs)
          else none
        else none
      else some (x.c_lo, x.c_len, x.cls, x.cell, x.other, x.xs)
theorem m_eq (x : gX) : exec E0 56 C26 0 (initS 0 (g.A x)) (g.H x) (finish 1 ty [.cell 2 38] f) = m x := by kernel_rfl
theorem tl : topL C26 0 = [] := by kernel_rfl
theorem known : Known Try.prog 26 g f m :=
  mk_known mixed (env_ok ty_ok cl_ok _) s26 rfl rfl tl AllL.nil (fun _ _ => ⟨rfl, rfl⟩) (fun _ _ => ⟨rfl, rfl⟩) m_eq
def con : Con := conG g [.arg 0 0] f m default
theorem con_ok : ConOk Try.prog 26 con := conG_ok known
end F26
namespace F31
structure gX where
  c_lo : Nat
  c_len : Nat
  cls : Int
  cell : Int
  other : Int
  x : Int
  v : Int
  xs : List (Int)

def g : Sg gX where
  vs := [.agg [.sl 0 0 1, .it .i64, .it .i64, .it .i64], .c (.it .i64), .c (.it .i64)]
  h := [.arr (.int .i64) 0]
  to := fun a b => ⟨a.1.1.1, a.1.1.2, a.1.2.1, a.1.2.2.1, a.1.2.2.2.1, a.2.1, a.2.2.1, b.1⟩
  fa := fun x => (((x.c_lo, x.c_len), (x.cls, (x.cell, (x.other, ())))), (x.x, (x.v, ())))
  fh := fun x => (x.xs, ())
abbrev fY := Nat × Nat × Int × Int × Int × List (Int)
def f : Ft fY where
  ord := none
  sh := .agg [.sl 0 0 1, .it .i64, .it .i64, .it .i64]
  h := [.arr (.int .i64) 0]
  to := fun a b => (a.1.1, a.1.2, a.2.1, a.2.2.1, a.2.2.2.1, b.1)
  fv := fun y => ((y.1, y.2.1), (y.2.2.1, (y.2.2.2.1, (y.2.2.2.2.1, ()))))
  fh := fun y => (y.2.2.2.2.2, ())
def cl : List (FuncId × Con) := [(26, F26.con)]
theorem cl_ok : allCon Try.prog cl := ⟨F26.con_ok, trivial⟩
def E0 : Env := ⟨ty, cfOf cl, fun _ => none⟩
def m (x : gX) : Option fY :=
  bif inR x.x x.c_len then
  bif decide (x.c_lo + x.x.toNat < x.xs.length) then
    bif
        bif x.x == x.cell then
          bif bif bif x.cls == 2 then x.v == 1 else false then x.xs[x.c_lo + x.x.toNat]?.getD 0 == 0 else false then true
          else bif bif x.cls == 3 then x.v == 0 else false then x.xs[x.c_lo + x.x.toNat]?.getD 0 == 1 else false
        else false then
      some (x.c_lo, x.c_len, x.cls, x.cell, x.other, x.xs)
    else
      bif inR x.x x.c_len then
        bif decide (x.c_lo + x.x.toNat < x.xs.length) then
          bif bif bif x.x == x.other then decide (x.cls ≥ 4) else false then decide (x.cls ≤ 9) else false then
            bif x.cls == 4 then
              bif bif x.xs[x.c_lo + x.x.toNat]?.getD 0 == 0 then x.v == 1 else false then
                bif inR x.cell x.c_len then
                  bif decide (x.c_lo + x.cell.toNat < (x.xs.set (x.c_lo + x.x.toNat) x.v).length) then
                    bif inR x.cell x.c_len then
                      bif decide (x.c_lo + x.cell.toNat < (x.xs.set (x.c_lo + x.x.toNat) x.v).length) then
                        bindO
                          (F26.m
                            { c_lo := x.c_lo, c_len := x.c_len, cls := x.cls, cell := x.cell, other := x.other,
                              xs :=
                                (x.xs.set (x.c_lo + x.x.toNat) x.v).set (x.c_lo + x.cell.toNat)
                                  (IntKind.i64.wrap (1 - (x.xs.set (x.c_lo + x.x.toNat) x.v)[x.c_lo + x.cell.toNat]?.getD 0)) })
                          fun y => some (y.fst, y.snd.fst, y.snd.snd.fst, y.snd.snd.snd.fst, y.snd.snd.snd.snd.fst, y.snd.snd.snd.snd.snd)
                      else none
                    else none
                  else none
                else none
              else
                bindO (F26.m { c_lo := x.c_lo, c_len := x.c_len, cls := x.cls, cell := x.cell, other := x.other, xs := x.xs.set (x.c_lo + x.x.toNat) x.v }) fun y =>
                  some (y.fst, y.snd.fst, y.snd.snd.fst, y.snd.snd.snd.fst, y.snd.snd.snd.snd.fst, y.snd.snd.snd.snd.snd)
            else
              bif x.cls == 5 then
                bif bif x.xs[x.c_lo + x.x.toNat]?.getD 0 == 1 then x.v == 0 else false then
                  bif inR x.cell x.c_len then
                    bif decide (x.c_lo + x.cell.toNat < (x.xs.set (x.c_lo + x.x.toNat) x.v).length) then
                      bif inR x.cell x.c_len then
                        bif decide (x.c_lo + x.cell.toNat < (x.xs.set (x.c_lo + x.x.toNat) x.v).length) then
                          bindO
                            (F26.m
                              { c_lo := x.c_lo, c_len := x.c_len, cls := x.cls, cell := x.cell, other := x.other,
                                xs :=
                                  (x.xs.set (x.c_lo + x.x.toNat) x.v).set (x.c_lo + x.cell.toNat)
                                    (IntKind.i64.wrap (1 - (x.xs.set (x.c_lo + x.x.toNat) x.v)[x.c_lo + x.cell.toNat]?.getD 0)) })
                            fun y => some (y.fst, y.snd.fst, y.snd.snd.fst, y.snd.snd.snd.fst, y.snd.snd.snd.snd.fst, y.snd.snd.snd.snd.snd)
                        else none
                      else none
                    else none
                  else none
                else
                  bindO (F26.m { c_lo := x.c_lo, c_len := x.c_len, cls := x.cls, cell := x.cell, other := x.other, xs := x.xs.set (x.c_lo + x.x.toNat) x.v }) fun y =>
                    some (y.fst, y.snd.fst, y.snd.snd.fst, y.snd.snd.snd.fst, y.snd.snd.snd.snd.fst, y.snd.snd.snd.snd.snd)
              else
                bif bif x.cls == 6 then x.cls == 6 else x.cls == 7 then
                  bif bif x.xs[x.c_lo + x.x.toNat]?.getD 0 == 0 then x.v == 1 else false then
                    bif inR x.cell x.c_len then
                      bif decide (x.c_lo + x.cell.toNat < (x.xs.set (x.c_lo + x.x.toNat) x.v).length) then
                        bindO
                          (F26.m
                            { c_lo := x.c_lo, c_len := x.c_len, cls := x.cls, cell := x.cell, other := x.other,
                              xs := (x.xs.set (x.c_lo + x.x.toNat) x.v).set (x.c_lo + x.cell.toNat) (IntKind.i64.wrap (x.cls - 6)) })
                          fun y => some (y.fst, y.snd.fst, y.snd.snd.fst, y.snd.snd.snd.fst, y.snd.snd.snd.snd.fst, y.snd.snd.snd.snd.snd)
                      else none
                    else none
                  else
                    bindO (F26.m { c_lo := x.c_lo, c_len := x.c_len, cls := x.cls, cell := x.cell, other := x.other, xs := x.xs.set (x.c_lo + x.x.toNat) x.v }) fun y =>
                      some (y.fst, y.snd.fst, y.snd.snd.fst, y.snd.snd.snd.fst, y.snd.snd.snd.snd.fst, y.snd.snd.snd.snd.snd)
                else
                  bif bif x.xs[x.c_lo + x.x.toNat]?.getD 0 == 1 then x.v == 0 else false then
                    bif inR x.cell x.c_len then
                      bif decide (x.c_lo + x.cell.toNat < (x.xs.set (x.c_lo + x.x.toNat) x.v).length) then
                        bindO
                          (F26.m
                            { c_lo := x.c_lo, c_len := x.c_len, cls := x.cls, cell := x.cell, other := x.other,
                              xs := (x.xs.set (x.c_lo + x.x.toNat) x.v).set (x.c_lo + x.cell.toNat) (IntKind.i64.wrap (x.cls - 8)) })
                          fun y => some (y.fst, y.snd.fst, y.snd.snd.fst, y.snd.snd.snd.fst, y.snd.snd.snd.snd.fst, y.snd.snd.snd.snd.snd)
                      else none
                    else none
                  else
                    bindO (F26.m { c_lo := x.c_lo, c_len := x.c_len, cls := x.cls, cell := x.cell, other := x.other, xs := x.xs.set (x.c_lo + x.x.toNat) x.v }) fun y =>
                      some (y.fst, y.snd.fst, y.snd.snd.fst, y.snd.snd.snd.fst, y.snd.snd.snd.snd.fst, y.snd.snd.snd.snd.snd)
          else
            bindO (F26.m { c_lo := x.c_lo, c_len := x.c_len, cls := x.cls, cell := x.cell, other := x.other, xs := x.xs.set (x.c_lo + x.x.toNat) x.v }) fun y =>
              some (y.fst, y.snd.fst, y.snd.snd.fst, y.snd.snd.snd.fst, y.snd.snd.snd.snd.fst, y.snd.snd.snd.snd.snd)
        else none
      else none
  else none
else none
theorem m_eq (x : gX) : exec E0 132 C31 0 (initS 0 (g.A x)) (g.H x) (finish 1 ty [.cell 6 38] f) = m x := by kernel_rfl
theorem tl : topL C31 0 = [] := by kernel_rfl
theorem known : Known Try.prog 31 g f m :=
  mk_known mixed (env_ok ty_ok cl_ok _) s31 rfl rfl tl AllL.nil (fun _ _ => ⟨rfl, rfl⟩) (fun _ _ => ⟨rfl, rfl⟩) m_eq
def con : Con := conG g [.arg 0 0] f m default
theorem con_ok : ConOk Try.prog 31 con := conG_ok known
end F31
namespace F12
structure gX where
  start : List (Int)
  cls : Int
  cell : Int
  other : Int

def g : Sg gX where
  vs := [.c (.arr (.int .u8)), .c (.it .i64), .c (.it .i64), .c (.it .i64)]
  h := []
  to := fun a b => ⟨a.1, a.2.1, a.2.2.1, a.2.2.2.1⟩
  fa := fun x => (x.start, (x.cls, (x.cell, (x.other, ()))))
  fh := fun x => ()
abbrev fY := List (Int) × Int × Int × Int
def f : Ft fY where
  ord := none
  sh := .agg [.arr (.int .i64), .it .i64, .it .i64, .it .i64]
  h := []
  to := fun a b => (a.1, a.2.1, a.2.2.1, a.2.2.2.1)
  fv := fun y => (y.1, (y.2.1, (y.2.2.1, (y.2.2.2, ()))))
  fh := fun y => ()
def cl : List (FuncId × Con) := [(26, F26.con)]
theorem cl_ok : allCon Try.prog cl := ⟨F26.con_ok, trivial⟩
def E1 : Env := ⟨ty, cfOf cl, fun _ => none⟩
structure p0X where
  start : List (Int)
  i : Int
  c_lo : Nat
  c_len : Nat
  cls : Int
  cell : Int
  other : Int
  xs : List (Int)

def p0 : Pt p0X where
  own := [.cell 1 0 (.int .i64)]
  t := ⟨[(0, .c (.arr (.int .u8))), (8, .c (.ptr 0 0)), (9, .c (.ptr 1 0)), (10, .c (.it .i64))], [.st [.junk, .junk, .junk, .junk] 1 0, .st [.sl 2 0 1, .it .i64, .it .i64, .it .i64] 1 0, .arr (.int .i64) 0]⟩
  to := fun v => ⟨v.1.1, v.1.2.2.2.1, v.2.2.1.1.1, v.2.2.1.1.2, v.2.2.1.2.1, v.2.2.1.2.2.1, v.2.2.1.2.2.2.1, v.2.2.2.1⟩
  fr := fun x => ((x.start, ((), ((), (x.i, ())))), (((), ((), ((), ((), ())))), (((x.c_lo, x.c_len), (x.cls, (x.cell, (x.other, ())))), (x.xs, ()))))
structure q0X where
  c_lo : Nat
  c_len : Nat
  cls : Int
  cell : Int
  other : Int
  xs : List (Int)

def q0 : Pt q0X where
  own := []
  t := ⟨[(8, .c (.ptr 0 0)), (9, .c (.ptr 1 0))], [.st [.junk, .junk, .junk, .junk] 1 0, .st [.sl 2 0 1, .it .i64, .it .i64, .it .i64] 1 0, .arr (.int .i64) 0]⟩
  to := fun v => ⟨v.2.2.1.1.1, v.2.2.1.1.2, v.2.2.1.2.1, v.2.2.1.2.2.1, v.2.2.1.2.2.2.1, v.2.2.2.1⟩
  fr := fun x => (((), ((), ())), (((), ((), ((), ((), ())))), (((x.c_lo, x.c_len), (x.cls, (x.cell, (x.other, ())))), (x.xs, ()))))
def s0 (x : p0X) : Option (p0X ⊕ q0X) :=
  bif decide (x.i < (↑x.start.length : Int)) then
  bif inR x.i x.start.length then
    bif eqN x.c_lo 0 && eqN x.xs.length x.c_len && roomB (x.c_len + 1) 8 then
      some
        (Sum.inl
          { start := x.start, i := IntKind.i64.wrap (x.i + 1), c_lo := 0, c_len := x.c_len + 1, cls := x.cls, cell := x.cell, other := x.other,
            xs := x.xs ++ [IntKind.i64.wrap (x.start[x.i.toNat]?.getD 0)] })
    else none
  else none
else some (Sum.inr { c_lo := x.c_lo, c_len := x.c_len, cls := x.cls, cell := x.cell, other := x.other, xs := x.xs })
theorem s0_eq (x : p0X) : exec E1 33 (C12.bodyAt 0) 1 (p0.R x) (p0.H x) (roundK 0 p0 (.exit 0) q0) = s0 x := by kernel_rfl
noncomputable def l0 : LoopS := mkLoop 0 p0 (.exit 0) q0 s0
theorem t0 : topL (C12.bodyAt 0) 1 = [] := by kernel_rfl
theorem l0_ok : LoopOkS Try.prog 33 none 0 (C12.bodyAt 0) l0 := mkLoop_ok mixed (env_ok ty_ok cl_ok _) (by trivial) (fun _ => rfl) (fun _ => rfl) (t0 ▸ (AllL.nil)) s0_eq
noncomputable def E0 : Env := ⟨ty, cfOf cl, lpOf [(0, l0)]⟩
noncomputable def m (x : gX) : Option fY :=
  bindO (iter s0 { start := x.start, i := 0, c_lo := 0, c_len := 0, cls := x.cls, cell := x.cell, other := x.other, xs := [] }) fun y =>
  bindO (F26.m { c_lo := y.c_lo, c_len := y.c_len, cls := y.cls, cell := y.cell, other := y.other, xs := y.xs }) fun y =>
    bif leB (y.fst + y.snd.fst) y.snd.snd.snd.snd.snd.length && true && true && true then
      some (List.take y.snd.fst (List.drop y.fst y.snd.snd.snd.snd.snd), y.snd.snd.fst, y.snd.snd.snd.fst, y.snd.snd.snd.snd.fst)
    else none
theorem m_eq (x : gX) : exec E0 33 C12 0 (initS 0 (g.A x)) (g.H x) (finish 0 ty [.cell 8 38] f) = m x := by kernel_rfl
theorem tl : topL C12 0 = [(0, C12.bodyAt 0)] := by kernel_rfl
theorem known : Known Try.prog 12 g f m :=
  mk_known mixed (env_ok ty_ok cl_ok _) s12 rfl rfl tl (AllL.cons rfl l0_ok AllL.nil) (fun _ _ => ⟨rfl, rfl⟩) (fun _ _ => ⟨rfl, rfl⟩) m_eq
noncomputable def con : Con := conT g f m default
theorem con_ok : ConOk Try.prog 12 con := conT_ok known (fun _ => rfl) rfl
end F12
namespace F16
structure gX where
  c : List (Int)
  cls : Int
  cell : Int
  other : Int
  a : Int
  v : Int

def g : Sg gX where
  vs := [.agg [.arr (.int .i64), .it .i64, .it .i64, .it .i64], .c (.it .i64), .c (.it .i64)]
  h := []
  to := fun a b => ⟨a.1.1, a.1.2.1, a.1.2.2.1, a.1.2.2.2.1, a.2.1, a.2.2.1⟩
  fa := fun x => ((x.c, (x.cls, (x.cell, (x.other, ())))), (x.a, (x.v, ())))
  fh := fun x => ()
abbrev fY := List (Int) × Int × Int × Int
def f : Ft fY where
  ord := none
  sh := .agg [.arr (.int .i64), .it .i64, .it .i64, .it .i64]
  h := []
  to := fun a b => (a.1, a.2.1, a.2.2.1, a.2.2.2.1)
  fv := fun y => (y.1, (y.2.1, (y.2.2.1, (y.2.2.2, ()))))
  fh := fun y => ()
def cl : List (FuncId × Con) := [(31, F31.con)]
theorem cl_ok : allCon Try.prog cl := ⟨F31.con_ok, trivial⟩
def E0 : Env := ⟨ty, cfOf cl, fun _ => none⟩
def m (x : gX) : Option fY :=
  bif roomB x.c.length 8 then
  bif bif x.a == x.cell then bif x.cls == 14 then true else x.cls == 15 else false then
    bif leB (0 + x.c.length) x.c.length && true && true && true then some (List.take x.c.length (List.drop 0 x.c), x.cls, x.cell, x.other) else none
  else
    bif bif x.a == x.cell then x.cls == 16 else false then
      bindO (F31.m { c_lo := 0, c_len := x.c.length, cls := x.cls, cell := x.cell, other := x.other, x := x.other, v := x.v, xs := x.c }) fun y =>
        bif leB (y.fst + y.snd.fst) y.snd.snd.snd.snd.snd.length && true && true && true then
          some (List.take y.snd.fst (List.drop y.fst y.snd.snd.snd.snd.snd), y.snd.snd.fst, y.snd.snd.snd.fst, y.snd.snd.snd.snd.fst)
        else none
    else
      bindO (F31.m { c_lo := 0, c_len := x.c.length, cls := x.cls, cell := x.cell, other := x.other, x := x.a, v := x.v, xs := x.c }) fun y =>
        bif bif x.a == x.cell then decide (x.cls ≥ 17) else false then
          bindO
            (F31.m
              { c_lo := y.fst, c_len := y.snd.fst, cls := y.snd.snd.fst, cell := y.snd.snd.snd.fst, other := y.snd.snd.snd.snd.fst, x := x.other, v := x.v,
                xs := y.snd.snd.snd.snd.snd })
            fun y =>
            bif leB (y.fst + y.snd.fst) y.snd.snd.snd.snd.snd.length && true && true && true then
              some (List.take y.snd.fst (List.drop y.fst y.snd.snd.snd.snd.snd), y.snd.snd.fst, y.snd.snd.snd.fst, y.snd.snd.snd.snd.fst)
            else none
        else
          bif leB (y.fst + y.snd.fst) y.snd.snd.snd.snd.snd.length && true && true && true then
            some (List.take y.snd.fst (List.drop y.fst y.snd.snd.snd.snd.snd), y.snd.snd.fst, y.snd.snd.snd.fst, y.snd.snd.snd.snd.fst)
          else none
else none
theorem m_eq (x : gX) : exec E0 61 C16 0 (initS 0 (g.A x)) (g.H x) (finish 0 ty [.cell 6 38] f) = m x := by kernel_rfl
theorem tl : topL C16 0 = [] := by kernel_rfl
theorem known : Known Try.prog 16 g f m :=
  mk_known mixed (env_ok ty_ok cl_ok _) s16 rfl rfl tl AllL.nil (fun _ _ => ⟨rfl, rfl⟩) (fun _ _ => ⟨rfl, rfl⟩) m_eq
def con : Con := conT g f m default
theorem con_ok : ConOk Try.prog 16 con := conT_ok known (fun _ => rfl) rfl
end F16
namespace F18
structure gX where
  c : List (Int)
  cls : Int
  cell : Int
  other : Int
  a : Int

def g : Sg gX where
  vs := [.agg [.arr (.int .i64), .it .i64, .it .i64, .it .i64], .c (.it .i64)]
  h := []
  to := fun a b => ⟨a.1.1, a.1.2.1, a.1.2.2.1, a.1.2.2.2.1, a.2.1⟩
  fa := fun x => ((x.c, (x.cls, (x.cell, (x.other, ())))), (x.a, ()))
  fh := fun x => ()
abbrev fY := Int
def f : Ft fY where
  ord := none
  sh := .c (.it .i64)
  h := []
  to := fun a b => (a)
  fv := fun y => y
  fh := fun y => ()
def cl : List (FuncId × Con) := []
theorem cl_ok : allCon Try.prog cl := trivial
def E0 : Env := ⟨ty, cfOf cl, fun _ => none⟩
def m (x : gX) : Option fY :=
  bif x.a == x.cell then
  bif bif x.cls == 14 then x.cls == 14 else x.cls == 15 then some (IntKind.i64.wrap (x.cls - 14))
  else
    bif x.cls == 16 then bif inR x.other x.c.length then some (x.c[x.other.toNat]?.getD 0) else none
    else
      bif x.cls == 17 then
        bif inR x.a x.c.length then bif inR x.other x.c.length then some (IntKind.i64.wrap (x.c[x.a.toNat]?.getD 0 * x.c[x.other.toNat]?.getD 0)) else none else none
      else
        bif x.cls == 18 then
          bif inR x.a x.c.length then
            bif inR x.other x.c.length then some (if x.c[x.other.toNat]?.getD 0 > x.c[x.a.toNat]?.getD 0 then x.c[x.other.toNat]?.getD 0 else x.c[x.a.toNat]?.getD 0) else none
          else none
        else bif inR x.a x.c.length then some (x.c[x.a.toNat]?.getD 0) else none
else bif inR x.a x.c.length then some (x.c[x.a.toNat]?.getD 0) else none
theorem m_eq (x : gX) : exec E0 58 C18 0 (initS 0 (g.A x)) (g.H x) (finish 0 ty [.tmp 4] f) = m x := by kernel_rfl
theorem tl : topL C18 0 = [] := by kernel_rfl
theorem known : Known Try.prog 18 g f m :=
  mk_known mixed (env_ok ty_ok cl_ok _) s18 rfl rfl tl AllL.nil (fun _ _ => ⟨rfl, rfl⟩) (fun _ _ => ⟨rfl, rfl⟩) m_eq
def con : Con := conT g f m default
theorem con_ok : ConOk Try.prog 18 con := conT_ok known (fun _ => rfl) rfl
end F18
end Go.Proofs.Ythchfbanjeiieaa
/-
  The functions of defects, run on symbolic values.
-/
set_option linter.unusedSimpArgs false
set_option linter.unusedVariables false
namespace Go.Proofs.Ythchfbanjeiieaa
open Go.Abs

set_option maxRecDepth 100000
namespace F14
structure gX where
  size : Int
  start : Int
  cls : Int
  cell : Int
  other : Int

def g : Sg gX where
  vs := [.agg [.it .u8, .it .u16, .it .u8, .it .u8, .it .u8]]
  h := []
  to := fun a b => ⟨a.1.1, a.1.2.1, a.1.2.2.1, a.1.2.2.2.1, a.1.2.2.2.2.1⟩
  fa := fun x => ((x.size, (x.start, (x.cls, (x.cell, (x.other, ()))))), ())
  fh := fun x => ()
abbrev fY := Int
def f : Ft fY where
  ord := none
  sh := .c (.it .i64)
  h := []
  to := fun a b => (a)
  fv := fun y => y
  fh := fun y => ()
def cl : List (FuncId × Con) := []
theorem cl_ok : allCon Try.prog cl := trivial
def E0 : Env := ⟨ty, cfOf cl, fun _ => none⟩
def m (x : gX) : Option fY :=
  some (IntKind.i64.wrap (2 + IntKind.i64.wrap (x.size.tmod 8)))
theorem m_eq (x : gX) : exec E0 8 C14 0 (initS 0 (g.A x)) (g.H x) (finish 0 ty [.tmp 2] f) = m x := by kernel_rfl
theorem tl : topL C14 0 = [] := by kernel_rfl
theorem known : Known Try.prog 14 g f m :=
  mk_known mixed (env_ok ty_ok cl_ok _) s14 rfl rfl tl AllL.nil (fun _ _ => ⟨rfl, rfl⟩) (fun _ _ => ⟨rfl, rfl⟩) m_eq
def con : Con := conT g f m default
theorem con_ok : ConOk Try.prog 14 con := conT_ok known (fun _ => rfl) rfl
end F14
namespace F13
structure gX where
  size : Int
  start : Int
  cls : Int
  cell : Int
  other : Int

def g : Sg gX where
  vs := [.agg [.it .u8, .it .u16, .it .u8, .it .u8, .it .u8]]
  h := []
  to := fun a b => ⟨a.1.1, a.1.2.1, a.1.2.2.1, a.1.2.2.2.1, a.1.2.2.2.2.1⟩
  fa := fun x => ((x.size, (x.start, (x.cls, (x.cell, (x.other, ()))))), ())
  fh := fun x => ()
abbrev fY := Nat × Nat × List (Int)
def f : Ft fY where
  ord := some [1, 0]
  sh := .c (.sl 0 0 1)
  h := [.arr (.int .u8) 0]
  to := fun a b => (a.1, a.2, b.1)
  fv := fun y => (y.1, y.2.1)
  fh := fun y => (y.2.2, ())
def cl : List (FuncId × Con) := [(14, F14.con)]
theorem cl_ok : allCon Try.prog cl := ⟨F14.con_ok, trivial⟩
def E1 : Env := ⟨ty, cfOf cl, fun _ => none⟩
structure p0X where
  out_lo : Nat
  out_len : Nat
  i : Int
  size : Int
  start : Int
  cls : Int
  cell : Int
  other : Int
  xs : List (Int)

def p0 : Pt p0X where
  own := [.reg 3 (.int .u8)]
  t := ⟨[(1, .c (.ptr 0 0)), (3, .c (.sl 1 0 1)), (4, .c (.it .i64))], [.st [.it .u8, .it .u16, .it .u8, .it .u8, .it .u8] 1 0, .arr (.int .u8) 0]⟩
  to := fun v => ⟨v.1.2.1.1, v.1.2.1.2, v.1.2.2.1, v.2.1.1, v.2.1.2.1, v.2.1.2.2.1, v.2.1.2.2.2.1, v.2.1.2.2.2.2.1, v.2.2.1⟩
  fr := fun x => (((), ((x.out_lo, x.out_len), (x.i, ()))), ((x.size, (x.start, (x.cls, (x.cell, (x.other, ()))))), (x.xs, ())))
structure q0X where
  out_lo : Nat
  out_len : Nat
  size : Int
  start : Int
  cls : Int
  cell : Int
  other : Int
  xs : List (Int)

def q0 : Pt q0X where
  own := []
  t := ⟨[(3, .c (.sl 1 0 1))], [.st [.it .u8, .it .u16, .it .u8, .it .u8, .it .u8] 1 0, .arr (.int .u8) 0]⟩
  to := fun v => ⟨v.1.1.1, v.1.1.2, v.2.1.1, v.2.1.2.1, v.2.1.2.2.1, v.2.1.2.2.2.1, v.2.1.2.2.2.2.1, v.2.2.1⟩
  fr := fun x => (((x.out_lo, x.out_len), ()), ((x.size, (x.start, (x.cls, (x.cell, (x.other, ()))))), (x.xs, ())))
def s0 (x : p0X) : Option (p0X ⊕ q0X) :=
  bindO (F14.m { size := x.size, start := x.start, cls := x.cls, cell := x.cell, other := x.other }) fun y =>
  bif decide (x.i < y) then
    bif decide (0 ≤ x.i) then
      bif eqN x.out_lo 0 && eqN x.xs.length x.out_len && roomB (x.out_len + 1) 1 then
        some
          (Sum.inl
            { out_lo := 0, out_len := x.out_len + 1, i := IntKind.i64.wrap (x.i + 1), size := x.size, start := x.start, cls := x.cls, cell := x.cell, other := x.other,
              xs := x.xs ++ [IntKind.u8.wrap (IntKind.u16.wrap (↑(BitVec.ofInt 16 (x.start.fdiv (2 ^ min x.i.toNat 16)) &&& BitVec.ofInt 16 1).toNat : Int))] })
      else none
    else none
  else some (Sum.inr { out_lo := x.out_lo, out_len := x.out_len, size := x.size, start := x.start, cls := x.cls, cell := x.cell, other := x.other, xs := x.xs })
theorem s0_eq (x : p0X) : exec E1 21 (C13.bodyAt 0) 1 (p0.R x) (p0.H x) (roundK 0 p0 (.exit 0) q0) = s0 x := by kernel_rfl
noncomputable def l0 : LoopS := mkLoop 0 p0 (.exit 0) q0 s0
theorem t0 : topL (C13.bodyAt 0) 1 = [] := by kernel_rfl
theorem l0_ok : LoopOkS Try.prog 21 none 0 (C13.bodyAt 0) l0 := mkLoop_ok mixed (env_ok ty_ok cl_ok _) (by trivial) (fun _ => rfl) (fun _ => rfl) (t0 ▸ (AllL.nil)) s0_eq
noncomputable def E0 : Env := ⟨ty, cfOf cl, lpOf [(0, l0)]⟩
noncomputable def m (x : gX) : Option fY :=
  bindO (iter s0 { out_lo := 0, out_len := 0, i := 0, size := x.size, start := x.start, cls := x.cls, cell := x.cell, other := x.other, xs := [] }) fun y =>
  some (y.out_lo, y.out_len, y.xs)
theorem m_eq (x : gX) : exec E0 21 C13 0 (initS 0 (g.A x)) (g.H x) (finish 0 ty [.tmp 2] f) = m x := by kernel_rfl
theorem tl : topL C13 0 = [(0, C13.bodyAt 0)] := by kernel_rfl
theorem known : Known Try.prog 13 g f m :=
  mk_known mixed (env_ok ty_ok cl_ok _) s13 rfl rfl tl (AllL.cons rfl l0_ok AllL.nil) (fun _ _ => ⟨rfl, rfl⟩) (fun _ _ => ⟨rfl, rfl⟩) m_eq
noncomputable def con : Con := conG g [] f m default
theorem con_ok : ConOk Try.prog 13 con := conG_ok known
end F13
namespace F13t
structure gX where
  size : Int
  start : Int
  cls : Int
  cell : Int
  other : Int

def g : Sg gX where
  vs := [.agg [.it .u8, .it .u16, .it .u8, .it .u8, .it .u8]]
  h := []
  to := fun a b => ⟨a.1.1, a.1.2.1, a.1.2.2.1, a.1.2.2.2.1, a.1.2.2.2.2.1⟩
  fa := fun x => ((x.size, (x.start, (x.cls, (x.cell, (x.other, ()))))), ())
  fh := fun x => ()
abbrev fY := List (Int)
def f : Ft fY where
  ord := none
  sh := .c (.arr (.int .u8))
  h := []
  to := fun a b => (a)
  fv := fun y => y
  fh := fun y => ()
def cl : List (FuncId × Con) := [(14, F14.con)]
theorem cl_ok : allCon Try.prog cl := ⟨F14.con_ok, trivial⟩
def E1 : Env := ⟨ty, cfOf cl, fun _ => none⟩
structure p0X where
  out_lo : Nat
  out_len : Nat
  i : Int
  size : Int
  start : Int
  cls : Int
  cell : Int
  other : Int
  xs : List (Int)

def p0 : Pt p0X where
  own := [.reg 3 (.int .u8)]
  t := ⟨[(1, .c (.ptr 0 0)), (3, .c (.sl 1 0 1)), (4, .c (.it .i64))], [.st [.it .u8, .it .u16, .it .u8, .it .u8, .it .u8] 1 0, .arr (.int .u8) 0]⟩
  to := fun v => ⟨v.1.2.1.1, v.1.2.1.2, v.1.2.2.1, v.2.1.1, v.2.1.2.1, v.2.1.2.2.1, v.2.1.2.2.2.1, v.2.1.2.2.2.2.1, v.2.2.1⟩
  fr := fun x => (((), ((x.out_lo, x.out_len), (x.i, ()))), ((x.size, (x.start, (x.cls, (x.cell, (x.other, ()))))), (x.xs, ())))
structure q0X where
  out_lo : Nat
  out_len : Nat
  size : Int
  start : Int
  cls : Int
  cell : Int
  other : Int
  xs : List (Int)

def q0 : Pt q0X where
  own := []
  t := ⟨[(3, .c (.sl 1 0 1))], [.st [.it .u8, .it .u16, .it .u8, .it .u8, .it .u8] 1 0, .arr (.int .u8) 0]⟩
  to := fun v => ⟨v.1.1.1, v.1.1.2, v.2.1.1, v.2.1.2.1, v.2.1.2.2.1, v.2.1.2.2.2.1, v.2.1.2.2.2.2.1, v.2.2.1⟩
  fr := fun x => (((x.out_lo, x.out_len), ()), ((x.size, (x.start, (x.cls, (x.cell, (x.other, ()))))), (x.xs, ())))
def s0 (x : p0X) : Option (p0X ⊕ q0X) :=
  bindO (F14.m { size := x.size, start := x.start, cls := x.cls, cell := x.cell, other := x.other }) fun y =>
  bif decide (x.i < y) then
    bif decide (0 ≤ x.i) then
      bif eqN x.out_lo 0 && eqN x.xs.length x.out_len && roomB (x.out_len + 1) 1 then
        some
          (Sum.inl
            { out_lo := 0, out_len := x.out_len + 1, i := IntKind.i64.wrap (x.i + 1), size := x.size, start := x.start, cls := x.cls, cell := x.cell, other := x.other,
              xs := x.xs ++ [IntKind.u8.wrap (IntKind.u16.wrap (↑(BitVec.ofInt 16 (x.start.fdiv (2 ^ min x.i.toNat 16)) &&& BitVec.ofInt 16 1).toNat : Int))] })
      else none
    else none
  else some (Sum.inr { out_lo := x.out_lo, out_len := x.out_len, size := x.size, start := x.start, cls := x.cls, cell := x.cell, other := x.other, xs := x.xs })
theorem s0_eq (x : p0X) : exec E1 21 (C13.bodyAt 0) 1 (p0.R x) (p0.H x) (roundK 0 p0 (.exit 0) q0) = s0 x := by kernel_rfl
noncomputable def l0 : LoopS := mkLoop 0 p0 (.exit 0) q0 s0
theorem t0 : topL (C13.bodyAt 0) 1 = [] := by kernel_rfl
theorem l0_ok : LoopOkS Try.prog 21 none 0 (C13.bodyAt 0) l0 := mkLoop_ok mixed (env_ok ty_ok cl_ok _) (by trivial) (fun _ => rfl) (fun _ => rfl) (t0 ▸ (AllL.nil)) s0_eq
noncomputable def E0 : Env := ⟨ty, cfOf cl, lpOf [(0, l0)]⟩
noncomputable def m (x : gX) : Option fY :=
  bindO (iter s0 { out_lo := 0, out_len := 0, i := 0, size := x.size, start := x.start, cls := x.cls, cell := x.cell, other := x.other, xs := [] }) fun y =>
  bif leB (y.out_lo + y.out_len) y.xs.length && true && true then some (List.take y.out_len (List.drop y.out_lo y.xs)) else none
theorem m_eq (x : gX) : exec E0 21 C13 0 (initS 0 (g.A x)) (g.H x) (finish 0 ty [.tmp 2] f) = m x := by kernel_rfl
theorem tl : topL C13 0 = [(0, C13.bodyAt 0)] := by kernel_rfl
theorem known : Known Try.prog 13 g f m :=
  mk_known mixed (env_ok ty_ok cl_ok _) s13 rfl rfl tl (AllL.cons rfl l0_ok AllL.nil) (fun _ _ => ⟨rfl, rfl⟩) (fun _ _ => ⟨rfl, rfl⟩) m_eq
noncomputable def con : Con := conT g f m default
theorem con_ok : ConOk Try.prog 13 con := conT_ok known (fun _ => rfl) rfl
end F13t
namespace F11
structure gX where
  size : Int
  start : Int
  cls : Int
  cell : Int
  other : Int

def g : Sg gX where
  vs := [.agg [.it .u8, .it .u16, .it .u8, .it .u8, .it .u8]]
  h := []
  to := fun a b => ⟨a.1.1, a.1.2.1, a.1.2.2.1, a.1.2.2.2.1, a.1.2.2.2.2.1⟩
  fa := fun x => ((x.size, (x.start, (x.cls, (x.cell, (x.other, ()))))), ())
  fh := fun x => ()
abbrev fY := Int × Int × Int × Int
def f : Ft fY where
  ord := none
  sh := .tup [.inr [.it .u8, .it .i64, .it .i64], .inl (.it .i64)]
  h := []
  to := fun a b => (a.1.1, a.1.2.1, a.1.2.2.1, a.2.1)
  fv := fun y => ((y.1, (y.2.1, (y.2.2.1, ()))), (y.2.2.2, ()))
  fh := fun y => ()
def cl : List (FuncId × Con) := [(14, F14.con)]
theorem cl_ok : allCon Try.prog cl := ⟨F14.con_ok, trivial⟩
def E0 : Env := ⟨ty, cfOf cl, fun _ => none⟩
def m (x : gX) : Option fY :=
  bindO (F14.m { size := x.size, start := x.start, cls := x.cls, cell := x.cell, other := x.other }) fun y =>
  bif IntKind.i64.wrap (x.cls.tmod 20) == 19 then some (0, 0, 0, 0)
  else
    bif nz y then
      bif bif bif decide (IntKind.i64.wrap (x.cls.tmod 20) > 3) then IntKind.i64.wrap (x.cls.tmod 20) != 14 else false then IntKind.i64.wrap (x.cls.tmod 20) != 15 else false then
        bif nz (IntKind.i64.wrap (y - 1)) then
          bif nz y then
            some
              (IntKind.u8.wrap (IntKind.i64.wrap (x.cls.tmod 20)), (IntKind.i64.wrap x.cell).tmod y,
                (IntKind.i64.wrap (IntKind.i64.wrap ((IntKind.i64.wrap x.cell).tmod y + 1) + (IntKind.i64.wrap x.other).tmod (IntKind.i64.wrap (y - 1)))).tmod y, 1)
          else none
        else none
      else some (IntKind.u8.wrap (IntKind.i64.wrap (x.cls.tmod 20)), (IntKind.i64.wrap x.cell).tmod y, 0, 1)
    else none
theorem m_eq (x : gX) : exec E0 48 C11 0 (initS 0 (g.A x)) (g.H x) (finish 0 ty [.cell 2 33, .tmp 3] f) = m x := by kernel_rfl
theorem tl : topL C11 0 = [] := by kernel_rfl
theorem known : Known Try.prog 11 g f m :=
  mk_known mixed (env_ok ty_ok cl_ok _) s11 rfl rfl tl AllL.nil (fun _ _ => ⟨rfl, rfl⟩) (fun _ _ => ⟨rfl, rfl⟩) m_eq
def con : Con := conT g f m default
theorem con_ok : ConOk Try.prog 11 con := conT_ok known (fun _ => rfl) rfl
end F11
end Go.Proofs.Ythchfbanjeiieaa
/-
  The examples of the chapter, as a contract.
-/
set_option linter.unusedSimpArgs false
set_option linter.unusedVariables false
namespace Go.Proofs.Ythchfbanjeiieaa
open Go.Abs
namespace F9
theorem run_eq : checkR Try.prog tab 200 20 9 [] = some (aB true) := by kernel_rfl
theorem ok0 : FnOk Try.prog 9 [] [] fun u τ => u = aB true ∧ τ = [] := checkR_ok mixed tab_ok run_eq
theorem ok (σ : Heap) : ConstAt Try.prog 9 [] σ [] (aB true) := const_any rfl rfl ok0
def con : Con where
  X := Unit
  Y := Unit
  dec := fun l _ => match l with | [] => some () | _ => none
  run := fun _ => some ()
  inh := ()
  val := fun _ _ _ => .c (.bo true)
  heap := fun _ _ σ => σ
  rd := fun _ => some []
theorem con_ok : ConOk Try.prog 9 con where
  ok := fun l σ x y h _ => by
    cases l with
    | nil => exact (ok _ _ (fun _ _ => agC.refl _ _)).mono fun v τ ⟨e1, e2⟩ => ⟨by rw [e1]; exact WV.rfl', by rw [e2]; exact WH.rfl'⟩
    | cons _ _ => cases h
  rd := fun l σ x y rs h hrs => by
    cases l with
    | nil =>
      refine ⟨rfl, fun _ => ?_⟩
      cases hrs
      exact ok _
    | cons _ _ => cases h
end F9
end Go.Proofs.Ythchfbanjeiieaa
/-
  The functions of defects, run on symbolic values.
-/
set_option linter.unusedSimpArgs false
set_option linter.unusedVariables false
namespace Go.Proofs.Ythchfbanjeiieaa
open Go.Abs

set_option maxRecDepth 100000
namespace F10
structure gX where
  size : Int
  start : Int
  cls : Int
  cell : Int
  other : Int

def g : Sg gX where
  vs := [.agg [.it .u8, .it .u16, .it .u8, .it .u8, .it .u8]]
  h := []
  to := fun a b => ⟨a.1.1, a.1.2.1, a.1.2.2.1, a.1.2.2.2.1, a.1.2.2.2.2.1⟩
  fa := fun x => ((x.size, (x.start, (x.cls, (x.cell, (x.other, ()))))), ())
  fh := fun x => ()
abbrev fY := Int × Int × Int × Int × Nat × Nat × Bool × List (Int)
def f : Ft fY where
  ord := some [2, 3, 0, 1]
  sh := .tup [.inl (.ptr 0 0), .inl (.it .i64)]
  h := [.st [.it .u8, .it .i64, .it .i64, .sl 1 0 1, .bo] 1 0, .arr (.int .u8) 0]
  to := fun a b => (a.2.1, b.1.1, b.1.2.1, b.1.2.2.1, b.1.2.2.2.1.1, b.1.2.2.2.1.2, b.1.2.2.2.2.1, b.2.1)
  fv := fun y => ((), (y.1, ()))
  fh := fun y => ((y.2.1, (y.2.2.1, (y.2.2.2.1, ((y.2.2.2.2.1, y.2.2.2.2.2.1), (y.2.2.2.2.2.2.1, ()))))), (y.2.2.2.2.2.2.2, ()))
noncomputable def cl : List (FuncId × Con) := [(11, F11.con), (13, F13t.con), (24, F24.con)]
theorem cl_ok : allCon Try.prog cl := ⟨F11.con_ok, F13t.con_ok, F24.con_ok, trivial⟩
noncomputable def E0 : Env := ⟨ty, cfOf cl, fun _ => none⟩
noncomputable def m (x : gX) : Option fY :=
  bindO (F11.m { size := x.size, start := x.start, cls := x.cls, cell := x.cell, other := x.other }) fun y =>
  bif y.snd.snd.snd == 0 then
    bindO (F13t.m { size := x.size, start := x.start, cls := x.cls, cell := x.cell, other := x.other }) fun y =>
      bindO (F24.m { start := y, d := [] }) fun y =>
        some (y.fst, y.snd.fst, y.snd.snd.fst, y.snd.snd.snd.fst, y.snd.snd.snd.snd.fst, y.snd.snd.snd.snd.snd.fst, y.snd.snd.snd.snd.snd.snd.fst, y.snd.snd.snd.snd.snd.snd.snd)
  else
    bindO (F13t.m { size := x.size, start := x.start, cls := x.cls, cell := x.cell, other := x.other }) fun y_1 =>
      bindO (F24.m { start := y_1, d := [(y.fst, y.snd.fst, y.snd.snd.fst)] }) fun y =>
        some (y.fst, y.snd.fst, y.snd.snd.fst, y.snd.snd.snd.fst, y.snd.snd.snd.snd.fst, y.snd.snd.snd.snd.snd.fst, y.snd.snd.snd.snd.snd.snd.fst, y.snd.snd.snd.snd.snd.snd.snd)
theorem m_eq (x : gX) : exec E0 25 C10 0 (initS 0 (g.A x)) (g.H x) (finish 0 ty [.tmp 2, .tmp 3] f) = m x := by kernel_rfl
theorem tl : topL C10 0 = [] := by kernel_rfl
theorem known : Known Try.prog 10 g f m :=
  mk_known mixed (env_ok ty_ok cl_ok _) s10 rfl rfl tl AllL.nil (fun _ _ => ⟨rfl, rfl⟩) (fun _ _ => ⟨rfl, rfl⟩) m_eq
noncomputable def con : Con := conG g [] f m default
theorem con_ok : ConOk Try.prog 10 con := conG_ok known
end F10
end Go.Proofs.Ythchfbanjeiieaa
/-
  Clones of a nil slice.
-/
set_option linter.unusedSimpArgs false
set_option linter.unusedVariables false
namespace Go.Proofs.Ythchfbanjeiieaa
open Go.Abs
theorem clone_c (σ : Heap) : ConstAt Try.prog 33 [.c (.t (.imm [] 0 (some 0)))] σ [] (.c (.t (.imm [] 0 (some 0)))) := by
  refine const_any rfl rfl (fnq s33 (by simp) ?_)
  simp -dsimp only [C33, Try.ti40, Try.ti46, st_nil (h := Try.ti40) (hk := rfl), nilTest, nilK, replS, fillS, show isNilConst (Operand.const (Value.slice none 0 0)) = true from rfl, appendE, show firstE [] 1 0 (AV.c (Cell.t (T.imm [] 0 (some 0)))) = some [] from rfl, show roomOk 0 1 = true from by simp [roomOk], wpq, initRegs, List.zipIdx_cons, List.zipIdx_nil, List.map_cons, List.map_nil, opsC, onDst_true, onGuard_true, onGuard_false, onSome_some, onBool_true, onBool_false, onIf_true, onIf_false, onOpt_some, bodyQ, retE, resE, packE, compsE, compE, guardC, guardV, List.isEmpty_nil, List.isEmpty_cons, dstOk, st_move, st_assign, st_pick, st_alloc, st_box, st_build, st_buildSlice, st_load, st_store, st_nilCheck, st_unOp, st_convert, st_makeFunc, st_makeSlice, st_slice, st_fieldAddr, st_field, st_indexAddr, st_index, st_extract, st_builtin, st_call, st_bin_tmp, st_bin_int, st_bin_bool, st_bin_str, op_move, op_assign, op_pick, op_alloc, op_box, op_build, op_buildSlice, op_load, op_store, op_nilCheck, op_unOp, op_convert, op_makeFunc, op_makeSlice, op_slice, op_fieldAddr, op_field, op_indexAddr, op_index, op_extract, op_builtin, op_bin, ev, evl, evs, evo, constAV, tOf, tsOf, tOfCell, Option.map_some, Option.map_none, Regs.get, Regs.set, Regs.put, Regs.putR, Regs.drop, Regs.del, Regs.kill, binE, isShift, intE, shiftE, strE, boolE, unE, convE, AV.flat, AV.cells, newE, TInf.isAgg, loadE, loadC, Heap.at?, storeE, splice, fieldAddrE, fieldE, partE, indexAddrE, indexE, extractE, intOfAV, boundE, sliceE, lenE, builtinE, minmaxE, makeFuncE, tsOfAV, refsOf, callE, callTarget, nilTest, nilK, eqOp, slLen, buildE, placesE, fillE, buildSliceE, allT, repl, onGuard_not, onBool_not, drawC, onDraw_some, newD, sd_move, sd_assign, sd_pick, sd_alloc, sd_box, sd_build, sd_buildSlice, sd_load, sd_store, sd_nilCheck, sd_unOp, sd_convert, sd_makeFunc, sd_makeSlice, sd_slice, sd_fieldAddr, sd_field, sd_indexAddr, sd_index, sd_extract, sd_builtin, sd_bin_tmp, sd_bin_int, sd_bin_bool, sd_bin_str, sd_call, od_move, od_assign, od_pick, od_alloc, od_box, od_build, od_buildSlice, od_load, od_store, od_nilCheck, od_unOp, od_convert, od_makeFunc, od_makeSlice, od_slice, od_fieldAddr, od_field, od_indexAddr, od_index, od_extract, od_bin, od_len, od_min, od_max, od_cap, od_append, idsOf, freeOf, disjN, memN, List.headD_cons, List.tail_cons, Nat.reduceAdd, Nat.reduceMul, Nat.reduceSub, Nat.reduceEqDiff, Nat.reduceLT, Nat.reduceLeDiff, Nat.zero_add, Nat.add_zero, decide_true, decide_false, Bool.true_or, Bool.or_true, Bool.false_or, Bool.or_false, Bool.true_and, Bool.and_true, Bool.false_and, Bool.and_false, int_beq, int_bne, beq_tt, beq_ff, gt_iff_lt, ge_iff_le, not_true_eq_false, not_false_eq_true, and_self, true_and, and_true, false_and, and_false, ↓reduceIte, Bool.false_eq_true, beq_self_eq_true, Bool.not_true, Bool.not_false, beq_iff_eq, List.length_cons, List.length_nil, List.drop_succ_cons, List.drop_zero, List.drop_nil, List.take_succ_cons, List.take_zero, List.take_nil, List.getElem?_cons_zero, List.getElem?_cons_succ, List.append_eq, List.cons_append, List.nil_append, List.set_cons_zero, List.set_cons_succ, List.getElem?_toArray, List.size_toArray, Array.size_empty, reduceCtorEq]; all_goals (repeat' ((first | refine onGuard_intro (fun _ => ?_) (fun _ => ?_) | refine onBool_intro (fun _ => ?_) (fun _ => ?_) | refine draw_if mixed ?_) <;> (try simp -dsimp only [*, C33, Try.ti40, Try.ti46, st_nil (h := Try.ti40) (hk := rfl), nilTest, nilK, replS, fillS, show isNilConst (Operand.const (Value.slice none 0 0)) = true from rfl, appendE, show firstE [] 1 0 (AV.c (Cell.t (T.imm [] 0 (some 0)))) = some [] from rfl, show roomOk 0 1 = true from by simp [roomOk], wpq, initRegs, List.zipIdx_cons, List.zipIdx_nil, List.map_cons, List.map_nil, opsC, onDst_true, onGuard_true, onGuard_false, onSome_some, onBool_true, onBool_false, onIf_true, onIf_false, onOpt_some, bodyQ, retE, resE, packE, compsE, compE, guardC, guardV, List.isEmpty_nil, List.isEmpty_cons, dstOk, st_move, st_assign, st_pick, st_alloc, st_box, st_build, st_buildSlice, st_load, st_store, st_nilCheck, st_unOp, st_convert, st_makeFunc, st_makeSlice, st_slice, st_fieldAddr, st_field, st_indexAddr, st_index, st_extract, st_builtin, st_call, st_bin_tmp, st_bin_int, st_bin_bool, st_bin_str, op_move, op_assign, op_pick, op_alloc, op_box, op_build, op_buildSlice, op_load, op_store, op_nilCheck, op_unOp, op_convert, op_makeFunc, op_makeSlice, op_slice, op_fieldAddr, op_field, op_indexAddr, op_index, op_extract, op_builtin, op_bin, ev, evl, evs, evo, constAV, tOf, tsOf, tOfCell, Option.map_some, Option.map_none, Regs.get, Regs.set, Regs.put, Regs.putR, Regs.drop, Regs.del, Regs.kill, binE, isShift, intE, shiftE, strE, boolE, unE, convE, AV.flat, AV.cells, newE, TInf.isAgg, loadE, loadC, Heap.at?, storeE, splice, fieldAddrE, fieldE, partE, indexAddrE, indexE, extractE, intOfAV, boundE, sliceE, lenE, builtinE, minmaxE, makeFuncE, tsOfAV, refsOf, callE, callTarget, nilTest, nilK, eqOp, slLen, buildE, placesE, fillE, buildSliceE, allT, repl, onGuard_not, onBool_not, drawC, onDraw_some, newD, sd_move, sd_assign, sd_pick, sd_alloc, sd_box, sd_build, sd_buildSlice, sd_load, sd_store, sd_nilCheck, sd_unOp, sd_convert, sd_makeFunc, sd_makeSlice, sd_slice, sd_fieldAddr, sd_field, sd_indexAddr, sd_index, sd_extract, sd_builtin, sd_bin_tmp, sd_bin_int, sd_bin_bool, sd_bin_str, sd_call, od_move, od_assign, od_pick, od_alloc, od_box, od_build, od_buildSlice, od_load, od_store, od_nilCheck, od_unOp, od_convert, od_makeFunc, od_makeSlice, od_slice, od_fieldAddr, od_field, od_indexAddr, od_index, od_extract, od_bin, od_len, od_min, od_max, od_cap, od_append, idsOf, freeOf, disjN, memN, List.headD_cons, List.tail_cons, Nat.reduceAdd, Nat.reduceMul, Nat.reduceSub, Nat.reduceEqDiff, Nat.reduceLT, Nat.reduceLeDiff, Nat.zero_add, Nat.add_zero, decide_true, decide_false, Bool.true_or, Bool.or_true, Bool.false_or, Bool.or_false, Bool.true_and, Bool.and_true, Bool.false_and, Bool.and_false, int_beq, int_bne, beq_tt, beq_ff, gt_iff_lt, ge_iff_le, not_true_eq_false, not_false_eq_true, and_self, true_and, and_true, false_and, and_false, ↓reduceIte, Bool.false_eq_true, beq_self_eq_true, Bool.not_true, Bool.not_false, beq_iff_eq, List.length_cons, List.length_nil, List.drop_succ_cons, List.drop_zero, List.drop_nil, List.take_succ_cons, List.take_zero, List.take_nil, List.getElem?_cons_zero, List.getElem?_cons_succ, List.append_eq, List.cons_append, List.nil_append, List.set_cons_zero, List.set_cons_succ, List.getElem?_toArray, List.size_toArray, Array.size_empty, reduceCtorEq])))
theorem clip_c (σ : Heap) : ConstAt Try.prog 32 [.c (.t (.imm [] 0 (some 0)))] σ [] (.c (.t (.imm [] 0 (some 0)))) := by
  refine const_any rfl rfl (fnq s32 (by simp) ?_)
  simp -dsimp only [C32, Try.ti40, Try.ti46, Int.natCast_nonneg, Int.le_refl, Int.toNat_natCast, wpq, initRegs, List.zipIdx_cons, List.zipIdx_nil, List.map_cons, List.map_nil, opsC, onDst_true, onGuard_true, onGuard_false, onSome_some, onBool_true, onBool_false, onIf_true, onIf_false, onOpt_some, bodyQ, retE, resE, packE, compsE, compE, guardC, guardV, List.isEmpty_nil, List.isEmpty_cons, dstOk, st_move, st_assign, st_pick, st_alloc, st_box, st_build, st_buildSlice, st_load, st_store, st_nilCheck, st_unOp, st_convert, st_makeFunc, st_makeSlice, st_slice, st_fieldAddr, st_field, st_indexAddr, st_index, st_extract, st_builtin, st_call, st_bin_tmp, st_bin_int, st_bin_bool, st_bin_str, op_move, op_assign, op_pick, op_alloc, op_box, op_build, op_buildSlice, op_load, op_store, op_nilCheck, op_unOp, op_convert, op_makeFunc, op_makeSlice, op_slice, op_fieldAddr, op_field, op_indexAddr, op_index, op_extract, op_builtin, op_bin, ev, evl, evs, evo, constAV, tOf, tsOf, tOfCell, Option.map_some, Option.map_none, Regs.get, Regs.set, Regs.put, Regs.putR, Regs.drop, Regs.del, Regs.kill, binE, isShift, intE, shiftE, strE, boolE, unE, convE, AV.flat, AV.cells, newE, TInf.isAgg, loadE, loadC, Heap.at?, storeE, splice, fieldAddrE, fieldE, partE, indexAddrE, indexE, extractE, intOfAV, boundE, sliceE, lenE, builtinE, minmaxE, makeFuncE, tsOfAV, refsOf, callE, callTarget, nilTest, nilK, eqOp, slLen, buildE, placesE, fillE, buildSliceE, allT, repl, onGuard_not, onBool_not, drawC, onDraw_some, newD, sd_move, sd_assign, sd_pick, sd_alloc, sd_box, sd_build, sd_buildSlice, sd_load, sd_store, sd_nilCheck, sd_unOp, sd_convert, sd_makeFunc, sd_makeSlice, sd_slice, sd_fieldAddr, sd_field, sd_indexAddr, sd_index, sd_extract, sd_builtin, sd_bin_tmp, sd_bin_int, sd_bin_bool, sd_bin_str, sd_call, od_move, od_assign, od_pick, od_alloc, od_box, od_build, od_buildSlice, od_load, od_store, od_nilCheck, od_unOp, od_convert, od_makeFunc, od_makeSlice, od_slice, od_fieldAddr, od_field, od_indexAddr, od_index, od_extract, od_bin, od_len, od_min, od_max, od_cap, od_append, idsOf, freeOf, disjN, memN, List.headD_cons, List.tail_cons, Nat.reduceAdd, Nat.reduceMul, Nat.reduceSub, Nat.reduceEqDiff, Nat.reduceLT, Nat.reduceLeDiff, Nat.zero_add, Nat.add_zero, decide_true, decide_false, Bool.true_or, Bool.or_true, Bool.false_or, Bool.or_false, Bool.true_and, Bool.and_true, Bool.false_and, Bool.and_false, int_beq, int_bne, beq_tt, beq_ff, gt_iff_lt, ge_iff_le, not_true_eq_false, not_false_eq_true, and_self, true_and, and_true, false_and, and_false, ↓reduceIte, Bool.false_eq_true, beq_self_eq_true, Bool.not_true, Bool.not_false, beq_iff_eq, List.length_cons, List.length_nil, List.drop_succ_cons, List.drop_zero, List.drop_nil, List.take_succ_cons, List.take_zero, List.take_nil, List.getElem?_cons_zero, List.getElem?_cons_succ, List.append_eq, List.cons_append, List.nil_append, List.set_cons_zero, List.set_cons_succ, List.getElem?_toArray, List.size_toArray, Array.size_empty, reduceCtorEq]; all_goals (repeat' ((first | refine onGuard_intro (fun _ => ?_) (fun _ => ?_) | refine onBool_intro (fun _ => ?_) (fun _ => ?_) | refine draw_if mixed ?_) <;> (try simp -dsimp only [*, C32, Try.ti40, Try.ti46, Int.natCast_nonneg, Int.le_refl, Int.toNat_natCast, wpq, initRegs, List.zipIdx_cons, List.zipIdx_nil, List.map_cons, List.map_nil, opsC, onDst_true, onGuard_true, onGuard_false, onSome_some, onBool_true, onBool_false, onIf_true, onIf_false, onOpt_some, bodyQ, retE, resE, packE, compsE, compE, guardC, guardV, List.isEmpty_nil, List.isEmpty_cons, dstOk, st_move, st_assign, st_pick, st_alloc, st_box, st_build, st_buildSlice, st_load, st_store, st_nilCheck, st_unOp, st_convert, st_makeFunc, st_makeSlice, st_slice, st_fieldAddr, st_field, st_indexAddr, st_index, st_extract, st_builtin, st_call, st_bin_tmp, st_bin_int, st_bin_bool, st_bin_str, op_move, op_assign, op_pick, op_alloc, op_box, op_build, op_buildSlice, op_load, op_store, op_nilCheck, op_unOp, op_convert, op_makeFunc, op_makeSlice, op_slice, op_fieldAddr, op_field, op_indexAddr, op_index, op_extract, op_builtin, op_bin, ev, evl, evs, evo, constAV, tOf, tsOf, tOfCell, Option.map_some, Option.map_none, Regs.get, Regs.set, Regs.put, Regs.putR, Regs.drop, Regs.del, Regs.kill, binE, isShift, intE, shiftE, strE, boolE, unE, convE, AV.flat, AV.cells, newE, TInf.isAgg, loadE, loadC, Heap.at?, storeE, splice, fieldAddrE, fieldE, partE, indexAddrE, indexE, extractE, intOfAV, boundE, sliceE, lenE, builtinE, minmaxE, makeFuncE, tsOfAV, refsOf, callE, callTarget, nilTest, nilK, eqOp, slLen, buildE, placesE, fillE, buildSliceE, allT, repl, onGuard_not, onBool_not, drawC, onDraw_some, newD, sd_move, sd_assign, sd_pick, sd_alloc, sd_box, sd_build, sd_buildSlice, sd_load, sd_store, sd_nilCheck, sd_unOp, sd_convert, sd_makeFunc, sd_makeSlice, sd_slice, sd_fieldAddr, sd_field, sd_indexAddr, sd_index, sd_extract, sd_builtin, sd_bin_tmp, sd_bin_int, sd_bin_bool, sd_bin_str, sd_call, od_move, od_assign, od_pick, od_alloc, od_box, od_build, od_buildSlice, od_load, od_store, od_nilCheck, od_unOp, od_convert, od_makeFunc, od_makeSlice, od_slice, od_fieldAddr, od_field, od_indexAddr, od_index, od_extract, od_bin, od_len, od_min, od_max, od_cap, od_append, idsOf, freeOf, disjN, memN, List.headD_cons, List.tail_cons, Nat.reduceAdd, Nat.reduceMul, Nat.reduceSub, Nat.reduceEqDiff, Nat.reduceLT, Nat.reduceLeDiff, Nat.zero_add, Nat.add_zero, decide_true, decide_false, Bool.true_or, Bool.or_true, Bool.false_or, Bool.or_false, Bool.true_and, Bool.and_true, Bool.false_and, Bool.and_false, int_beq, int_bne, beq_tt, beq_ff, gt_iff_lt, ge_iff_le, not_true_eq_false, not_false_eq_true, and_self, true_and, and_true, false_and, and_false, ↓reduceIte, Bool.false_eq_true, beq_self_eq_true, Bool.not_true, Bool.not_false, beq_iff_eq, List.length_cons, List.length_nil, List.drop_succ_cons, List.drop_zero, List.drop_nil, List.take_succ_cons, List.take_zero, List.take_nil, List.getElem?_cons_zero, List.getElem?_cons_succ, List.append_eq, List.cons_append, List.nil_append, List.set_cons_zero, List.set_cons_succ, List.getElem?_toArray, List.size_toArray, Array.size_empty, reduceCtorEq])))
def nilsCon : Con where
  X := Unit
  Y := Unit
  dec := fun us _ => match us with
    | [.c .nils] => some ()
    | _ => none
  run := fun _ => some ()
  inh := ()
  val := fun _ _ _ => .c .nils
  heap := fun _ _ σ => σ
  rd := fun _ => some []
theorem nilsCon_ok {g : FuncId} (h : ∀ σ, ConstAt Try.prog g [.c (.t (.imm [] 0 (some 0)))] σ [] (.c (.t (.imm [] 0 (some 0))))) : ConOk Try.prog g nilsCon where
  ok := fun us σ x y hd _ => by
    have e : us = [.c .nils] := by
      simp only [nilsCon] at hd
      split at hd
      · rfl
      · cases hd
    subst e
    exact (h (SH.den σ) (SH.den σ) (fun _ h => by cases h)).mono fun v τ ⟨h1, h2⟩ => ⟨h1 ▸ WV.rfl', h2 ▸ WH.rfl'⟩
  rd := fun us σ x y rs hd hr => by
    have e : us = [.c .nils] := by
      simp only [nilsCon] at hd
      split at hd
      · rfl
      · cases hd
    subst e
    cases hr
    exact ⟨rfl, fun _ => h _⟩
theorem c33 : ConOk Try.prog 33 nilsCon := nilsCon_ok clone_c
theorem c32 : ConOk Try.prog 32 nilsCon := nilsCon_ok clip_c
end Go.Proofs.Ythchfbanjeiieaa
/-
  The functions of defects, run on symbolic values.
-/
set_option linter.unusedSimpArgs false
set_option linter.unusedVariables false
namespace Go.Proofs.Ythchfbanjeiieaa
open Go.Abs

set_option maxRecDepth 100000
namespace F27k
structure gX where
  addr : Int

def g : Sg gX where
  vs := [.c (.np), .c (.it .i64)]
  h := []
  to := fun a b => ⟨a.2.1⟩
  fa := fun x => ((), (x.addr, ()))
  fh := fun x => ()
abbrev fY := Int
def f : Ft fY where
  ord := none
  sh := .c (.it .i64)
  h := []
  to := fun a b => (a)
  fv := fun y => y
  fh := fun y => ()
def cl : List (FuncId × Con) := []
theorem cl_ok : allCon Try.prog cl := trivial
def E0 : Env := ⟨ty, cfOf cl, fun _ => none⟩
def m (x : gX) : Option fY :=
  some 2
theorem m_eq (x : gX) : exec E0 28 C27 0 (initS 0 (g.A x)) (g.H x) (finish 0 ty [.tmp 4] f) = m x := by kernel_rfl
theorem tl : topL C27 0 = [] := by kernel_rfl
theorem known : Known Try.prog 27 g f m :=
  mk_known mixed (env_ok ty_ok cl_ok _) s27 rfl rfl tl AllL.nil (fun _ _ => ⟨rfl, rfl⟩) (fun _ _ => ⟨rfl, rfl⟩) m_eq
def con : Con := conT g f m default
theorem con_ok : ConOk Try.prog 27 con := conT_ok known (fun _ => rfl) rfl
end F27k
namespace F27z
structure gX where
  addr : Int
  cls : Int
  cell : Int
  other : Int
  intact : Bool

def g : Sg gX where
  vs := [.c (.ptr 0 0), .c (.it .i64)]
  h := [.st [.it .u8, .it .i64, .it .i64, .nils, .bo] 1 0]
  to := fun a b => ⟨a.2.1, b.1.1, b.1.2.1, b.1.2.2.1, b.1.2.2.2.2.1⟩
  fa := fun x => ((), (x.addr, ()))
  fh := fun x => ((x.cls, (x.cell, (x.other, ((), (x.intact, ()))))), ())
abbrev fY := Int × Int × Int × Int × Bool
def f : Ft fY where
  ord := none
  sh := .c (.it .i64)
  h := [.st [.it .u8, .it .i64, .it .i64, .nils, .bo] 1 0]
  to := fun a b => (a, b.1.1, b.1.2.1, b.1.2.2.1, b.1.2.2.2.2.1)
  fv := fun y => y.1
  fh := fun y => ((y.2.1, (y.2.2.1, (y.2.2.2.1, ((), (y.2.2.2.2, ()))))), ())
def cl : List (FuncId × Con) := []
theorem cl_ok : allCon Try.prog cl := trivial
def E0 : Env := ⟨ty, cfOf cl, fun _ => none⟩
def m (x : gX) : Option fY :=
  some (2, x.cls, x.cell, x.other, x.intact)
theorem m_eq (x : gX) : exec E0 28 C27 0 (initS 0 (g.A x)) (g.H x) (finish 1 ty [.tmp 4] f) = m x := by kernel_rfl
theorem tl : topL C27 0 = [] := by kernel_rfl
theorem known : Known Try.prog 27 g f m :=
  mk_known mixed (env_ok ty_ok cl_ok _) s27 rfl rfl tl AllL.nil (fun _ _ => ⟨rfl, rfl⟩) (fun _ _ => ⟨rfl, rfl⟩) m_eq
def con : Con := conR g [.arg 0 0] f m default
theorem con_ok : ConOk Try.prog 27 con := conR_ok known (fun _ => rfl) (fun _ _ h => by unfold m at h; cases h; rfl)
end F27z
namespace F15n
structure gX where
  addr : Int
  v : Int

def g : Sg gX where
  vs := [.c (.np), .c (.it .i64), .c (.it .u8)]
  h := []
  to := fun a b => ⟨a.2.1, a.2.2.1⟩
  fa := fun x => ((), (x.addr, (x.v, ())))
  fh := fun x => ()
abbrev fY := Int
def f : Ft fY where
  ord := none
  sh := .c (.it .i64)
  h := []
  to := fun a b => (a)
  fv := fun y => y
  fh := fun y => ()
def cl : List (FuncId × Con) := [(27, F27k.con), (28, F28.con)]
theorem cl_ok : allCon Try.prog cl := ⟨F27k.con_ok, F28.con_ok, trivial⟩
def E0 : Env := ⟨ty, cfOf cl, fun _ => none⟩
def m (x : gX) : Option fY :=
  bindO (F27k.m { addr := x.addr }) fun y =>
  bindO (bif y == 0 then F28.m { v := x.v } else some false) fun y_1 =>
    bif (bif bif y == 0 then !y_1 else false then 1 else y) != 0 then some (bif bif y == 0 then !y_1 else false then 1 else y) else none
theorem m_eq (x : gX) : exec E0 36 C15 0 (initS 0 (g.A x)) (g.H x) (finish 0 ty [.tmp 6] f) = m x := by kernel_rfl
theorem tl : topL C15 0 = topL C15 0 := by kernel_rfl
theorem known : Known Try.prog 15 g f m :=
  mk_known mixed (env_ok ty_ok cl_ok _) s15 rfl rfl tl (fun _ _ _ h => by cases h) (fun _ _ => ⟨rfl, rfl⟩) (fun _ _ => ⟨rfl, rfl⟩) m_eq
def con : Con := conT g f m default
theorem con_ok : ConOk Try.prog 15 con := conT_ok known (fun _ => rfl) rfl
end F15n
namespace F15z
structure gX where
  addr : Int
  v : Int
  cls : Int
  cell : Int
  other : Int
  intact : Bool

def g : Sg gX where
  vs := [.c (.ptr 0 0), .c (.it .i64), .c (.it .u8)]
  h := [.st [.it .u8, .it .i64, .it .i64, .nils, .bo] 1 0]
  to := fun a b => ⟨a.2.1, a.2.2.1, b.1.1, b.1.2.1, b.1.2.2.1, b.1.2.2.2.2.1⟩
  fa := fun x => ((), (x.addr, (x.v, ())))
  fh := fun x => ((x.cls, (x.cell, (x.other, ((), (x.intact, ()))))), ())
abbrev fY := Int × Int × Int × Int × Bool
def f : Ft fY where
  ord := none
  sh := .c (.it .i64)
  h := [.st [.it .u8, .it .i64, .it .i64, .nils, .bo] 1 0]
  to := fun a b => (a, b.1.1, b.1.2.1, b.1.2.2.1, b.1.2.2.2.2.1)
  fv := fun y => y.1
  fh := fun y => ((y.2.1, (y.2.2.1, (y.2.2.2.1, ((), (y.2.2.2.2, ()))))), ())
def cl : List (FuncId × Con) := [(27, F27z.con), (28, F28.con)]
theorem cl_ok : allCon Try.prog cl := ⟨F27z.con_ok, F28.con_ok, trivial⟩
def E0 : Env := ⟨ty, cfOf cl, fun _ => none⟩
def m (x : gX) : Option fY :=
  bindO (F27z.m { addr := x.addr, cls := x.cls, cell := x.cell, other := x.other, intact := x.intact }) fun y =>
  bindO (bif y.fst == 0 then F28.m { v := x.v } else some false) fun y_1 =>
    bif (bif bif y.fst == 0 then !y_1 else false then 1 else y.fst) != 0 then some (bif bif y.fst == 0 then !y_1 else false then 1 else y.fst, x.cls, x.cell, x.other, x.intact)
    else none
theorem m_eq (x : gX) : exec E0 36 C15 0 (initS 0 (g.A x)) (g.H x) (finish 1 ty [.tmp 6] f) = m x := by kernel_rfl
theorem tl : topL C15 0 = topL C15 0 := by kernel_rfl
theorem known : Known Try.prog 15 g f m :=
  mk_known mixed (env_ok ty_ok cl_ok _) s15 rfl rfl tl (fun _ _ _ h => by cases h) (fun _ _ => ⟨rfl, rfl⟩) (fun _ _ => ⟨rfl, rfl⟩) m_eq
def con : Con := conR g [.arg 0 0] f m default
theorem con_ok : ConOk Try.prog 15 con := conR_ok known (fun _ => rfl) (fun _ _ h => by unfold m at h; cases h; rfl)
end F15z
namespace F17n
structure gX where
  addr : Int

def g : Sg gX where
  vs := [.c (.np), .c (.it .i64)]
  h := []
  to := fun a b => ⟨a.2.1⟩
  fa := fun x => ((), (x.addr, ()))
  fh := fun x => ()
abbrev fY := Int × Int
def f : Ft fY where
  ord := none
  sh := .tup [.inl (.it .u8), .inl (.it .i64)]
  h := []
  to := fun a b => (a.1, a.2.1)
  fv := fun y => (y.1, (y.2, ()))
  fh := fun y => ()
def cl : List (FuncId × Con) := [(27, F27k.con)]
theorem cl_ok : allCon Try.prog cl := ⟨F27k.con_ok, trivial⟩
def E0 : Env := ⟨ty, cfOf cl, fun _ => none⟩
def m (x : gX) : Option fY :=
  bindO (F27k.m { addr := x.addr }) fun y => bif y != 0 then some (0, y) else none
theorem m_eq (x : gX) : exec E0 90 C17 0 (initS 0 (g.A x)) (g.H x) (finish 0 ty [.tmp 4, .tmp 5] f) = m x := by kernel_rfl
theorem tl : topL C17 0 = [] := by kernel_rfl
theorem known : Known Try.prog 17 g f m :=
  mk_known mixed (env_ok ty_ok cl_ok _) s17 rfl rfl tl AllL.nil (fun _ _ => ⟨rfl, rfl⟩) (fun _ _ => ⟨rfl, rfl⟩) m_eq
def con : Con := conT g f m default
theorem con_ok : ConOk Try.prog 17 con := conT_ok known (fun _ => rfl) rfl
end F17n
namespace F17z
structure gX where
  addr : Int
  cls : Int
  cell : Int
  other : Int
  intact : Bool

def g : Sg gX where
  vs := [.c (.ptr 0 0), .c (.it .i64)]
  h := [.st [.it .u8, .it .i64, .it .i64, .nils, .bo] 1 0]
  to := fun a b => ⟨a.2.1, b.1.1, b.1.2.1, b.1.2.2.1, b.1.2.2.2.2.1⟩
  fa := fun x => ((), (x.addr, ()))
  fh := fun x => ((x.cls, (x.cell, (x.other, ((), (x.intact, ()))))), ())
abbrev fY := Int × Int × Int × Int × Int × Bool
def f : Ft fY where
  ord := none
  sh := .tup [.inl (.it .u8), .inl (.it .i64)]
  h := [.st [.it .u8, .it .i64, .it .i64, .nils, .bo] 1 0]
  to := fun a b => (a.1, a.2.1, b.1.1, b.1.2.1, b.1.2.2.1, b.1.2.2.2.2.1)
  fv := fun y => (y.1, (y.2.1, ()))
  fh := fun y => ((y.2.2.1, (y.2.2.2.1, (y.2.2.2.2.1, ((), (y.2.2.2.2.2, ()))))), ())
def cl : List (FuncId × Con) := [(27, F27z.con)]
theorem cl_ok : allCon Try.prog cl := ⟨F27z.con_ok, trivial⟩
def E0 : Env := ⟨ty, cfOf cl, fun _ => none⟩
def m (x : gX) : Option fY :=
  bindO (F27z.m { addr := x.addr, cls := x.cls, cell := x.cell, other := x.other, intact := x.intact }) fun y =>
  bif y.fst != 0 then some (0, y.fst, x.cls, x.cell, x.other, x.intact) else none
theorem m_eq (x : gX) : exec E0 90 C17 0 (initS 0 (g.A x)) (g.H x) (finish 1 ty [.tmp 4, .tmp 5] f) = m x := by kernel_rfl
theorem tl : topL C17 0 = [] := by kernel_rfl
theorem known : Known Try.prog 17 g f m :=
  mk_known mixed (env_ok ty_ok cl_ok _) s17 rfl rfl tl AllL.nil (fun _ _ => ⟨rfl, rfl⟩) (fun _ _ => ⟨rfl, rfl⟩) m_eq
def con : Con := conR g [.arg 0 0] f m default
theorem con_ok : ConOk Try.prog 17 con := conR_ok known (fun _ => rfl) (fun _ _ h => by unfold m at h; cases h; rfl)
end F17z
namespace F19n
abbrev gX := Unit
def g : Sg gX where
  vs := [.c (.np)]
  h := []
  to := fun a b => ()
  fa := fun x => ((), ())
  fh := fun x => ()
abbrev fY := Unit
def f : Ft fY where
  ord := none
  sh := .c (.nils)
  h := []
  to := fun a b => ()
  fv := fun y => ()
  fh := fun y => ()
def cl : List (FuncId × Con) := []
theorem cl_ok : allCon Try.prog cl := trivial
def E0 : Env := ⟨ty, cfOf cl, fun _ => none⟩
def m (x : gX) : Option fY :=
  some PUnit.unit
theorem m_eq (x : gX) : exec E0 11 C19 0 (initS 0 (g.A x)) (g.H x) (finish 0 ty [.tmp 2] f) = m x := by kernel_rfl
theorem tl : topL C19 0 = [] := by kernel_rfl
theorem known : Known Try.prog 19 g f m :=
  mk_known mixed (env_ok ty_ok cl_ok _) s19 rfl rfl tl AllL.nil (fun _ _ => ⟨rfl, rfl⟩) (fun _ _ => ⟨rfl, rfl⟩) m_eq
def con : Con := conT g f m default
theorem con_ok : ConOk Try.prog 19 con := conT_ok known (fun _ => rfl) rfl
end F19n
namespace F19z
structure gX where
  cls : Int
  cell : Int
  other : Int
  intact : Bool

def g : Sg gX where
  vs := [.c (.ptr 0 0)]
  h := [.st [.it .u8, .it .i64, .it .i64, .nils, .bo] 1 0]
  to := fun a b => ⟨b.1.1, b.1.2.1, b.1.2.2.1, b.1.2.2.2.2.1⟩
  fa := fun x => ((), ())
  fh := fun x => ((x.cls, (x.cell, (x.other, ((), (x.intact, ()))))), ())
abbrev fY := Int × Int × Int × Bool
def f : Ft fY where
  ord := none
  sh := .c (.nils)
  h := [.st [.it .u8, .it .i64, .it .i64, .nils, .bo] 1 0]
  to := fun a b => (b.1.1, b.1.2.1, b.1.2.2.1, b.1.2.2.2.2.1)
  fv := fun y => ()
  fh := fun y => ((y.1, (y.2.1, (y.2.2.1, ((), (y.2.2.2, ()))))), ())
def cl : List (FuncId × Con) := [(33, nilsCon), (32, nilsCon)]
theorem cl_ok : allCon Try.prog cl := ⟨c33, c32, trivial⟩
def E0 : Env := ⟨ty, cfOf cl, fun _ => none⟩
def m (x : gX) : Option fY :=
  bindO (some PUnit.unit) fun y => bindO (some PUnit.unit) fun y => some (x.cls, x.cell, x.other, x.intact)
theorem m_eq (x : gX) : exec E0 11 C19 0 (initS 0 (g.A x)) (g.H x) (finish 1 ty [.tmp 2] f) = m x := by kernel_rfl
theorem tl : topL C19 0 = [] := by kernel_rfl
theorem known : Known Try.prog 19 g f m :=
  mk_known mixed (env_ok ty_ok cl_ok _) s19 rfl rfl tl AllL.nil (fun _ _ => ⟨rfl, rfl⟩) (fun _ _ => ⟨rfl, rfl⟩) m_eq
def con : Con := conR g [.arg 0 0] f m default
theorem con_ok : ConOk Try.prog 19 con := conR_ok known (fun _ => rfl) (fun _ _ h => by unfold m at h; cases h; rfl)
end F19z
end Go.Proofs.Ythchfbanjeiieaa
/-
  The functions of defects, run on symbolic values.
-/
set_option linter.unusedSimpArgs false
set_option linter.unusedVariables false
namespace Go.Proofs.Ythchfbanjeiieaa
open Go.Abs

set_option maxRecDepth 100000
namespace F5
structure gX where
  size : Int
  start : Int
  cls : Int
  cell : Int
  other : Int
  addr : Int
  v : Int

def g : Sg gX where
  vs := [.agg [.it .u8, .it .u16, .it .u8, .it .u8, .it .u8], .c (.it .i64), .c (.it .u8)]
  h := []
  to := fun a b => ⟨a.1.1, a.1.2.1, a.1.2.2.1, a.1.2.2.2.1, a.1.2.2.2.2.1, a.2.1, a.2.2.1⟩
  fa := fun x => ((x.size, (x.start, (x.cls, (x.cell, (x.other, ()))))), (x.addr, (x.v, ())))
  fh := fun x => ()
abbrev fY := Bool
def f : Ft fY where
  ord := none
  sh := .c (.bo)
  h := []
  to := fun a b => (a)
  fv := fun y => y
  fh := fun y => ()
noncomputable def cl : List (FuncId × Con) := [(9, F9.con), (10, F10.con), (14, F14.con), (17, F17n.con), (17, F17z.con), (17, F17.con), (15, F15n.con), (15, F15z.con), (15, F15.con), (19, F19n.con), (19, F19z.con), (19, F19.con)]
theorem cl_ok : allCon Try.prog cl := ⟨F9.con_ok, F10.con_ok, F14.con_ok, F17n.con_ok, F17z.con_ok, F17.con_ok, F15n.con_ok, F15z.con_ok, F15.con_ok, F19n.con_ok, F19z.con_ok, F19.con_ok, trivial⟩
noncomputable def E1 : Env := ⟨ty, cfOf cl, fun _ => none⟩
structure p0X where
  addr : Int
  b_lo : Nat
  b_len : Nat
  b_cap : Nat
  g : Int
  a_lo : Nat
  a_len : Nat
  a_cap : Nat
  i : Int
  size : Int
  start : Int
  cls : Int
  cell : Int
  other : Int
  mcls : Int
  mcell : Int
  mother : Int
  cells_lo : Nat
  cells_len : Nat
  intact : Bool
  xs : List (Int)
  bs : List (Int)
  es : List (Int)

def p0 : Pt p0X where
  own := []
  t := ⟨[(1, .c (.it .i64)), (3, .c (.ptr 0 0)), (9, .c (.slc 3 0 1)), (13, .c (.it .i64)), (14, .c (.slc 4 0 1)), (15, .c (.it .i64))], [.st [.it .u8, .it .u16, .it .u8, .it .u8, .it .u8] 1 0, .st [.it .u8, .it .i64, .it .i64, .sl 2 0 1, .bo] 1 0, .arr (.int .u8) 0, .arr (.int .u8) 0, .arr (.int .u8) 0]⟩
  to := fun v => ⟨v.1.1, v.1.2.2.1.1, v.1.2.2.1.2.1, v.1.2.2.1.2.2, v.1.2.2.2.1, v.1.2.2.2.2.1.1, v.1.2.2.2.2.1.2.1, v.1.2.2.2.2.1.2.2, v.1.2.2.2.2.2.1, v.2.1.1, v.2.1.2.1, v.2.1.2.2.1, v.2.1.2.2.2.1, v.2.1.2.2.2.2.1, v.2.2.1.1, v.2.2.1.2.1, v.2.2.1.2.2.1, v.2.2.1.2.2.2.1.1, v.2.2.1.2.2.2.1.2, v.2.2.1.2.2.2.2.1, v.2.2.2.1, v.2.2.2.2.1, v.2.2.2.2.2.1⟩
  fr := fun x => ((x.addr, ((), ((x.b_lo, x.b_len, x.b_cap), (x.g, ((x.a_lo, x.a_len, x.a_cap), (x.i, ())))))), ((x.size, (x.start, (x.cls, (x.cell, (x.other, ()))))), ((x.mcls, (x.mcell, (x.mother, ((x.cells_lo, x.cells_len), (x.intact, ()))))), (x.xs, (x.bs, (x.es, ()))))))
structure q0X where
  addr : Int
  b_lo : Nat
  b_len : Nat
  b_cap : Nat
  a_lo : Nat
  a_len : Nat
  a_cap : Nat
  size : Int
  start : Int
  cls : Int
  cell : Int
  other : Int
  mcls : Int
  mcell : Int
  mother : Int
  cells_lo : Nat
  cells_len : Nat
  intact : Bool
  xs : List (Int)
  bs : List (Int)
  es : List (Int)

def q0 : Pt q0X where
  own := []
  t := ⟨[(1, .c (.it .i64)), (3, .c (.ptr 0 0)), (9, .c (.slc 3 0 1)), (14, .c (.slc 4 0 1))], [.st [.it .u8, .it .u16, .it .u8, .it .u8, .it .u8] 1 0, .st [.it .u8, .it .i64, .it .i64, .sl 2 0 1, .bo] 1 0, .arr (.int .u8) 0, .arr (.int .u8) 0, .arr (.int .u8) 0]⟩
  to := fun v => ⟨v.1.1, v.1.2.2.1.1, v.1.2.2.1.2.1, v.1.2.2.1.2.2, v.1.2.2.2.1.1, v.1.2.2.2.1.2.1, v.1.2.2.2.1.2.2, v.2.1.1, v.2.1.2.1, v.2.1.2.2.1, v.2.1.2.2.2.1, v.2.1.2.2.2.2.1, v.2.2.1.1, v.2.2.1.2.1, v.2.2.1.2.2.1, v.2.2.1.2.2.2.1.1, v.2.2.1.2.2.2.1.2, v.2.2.1.2.2.2.2.1, v.2.2.2.1, v.2.2.2.2.1, v.2.2.2.2.2.1⟩
  fr := fun x => ((x.addr, ((), ((x.b_lo, x.b_len, x.b_cap), ((x.a_lo, x.a_len, x.a_cap), ())))), ((x.size, (x.start, (x.cls, (x.cell, (x.other, ()))))), ((x.mcls, (x.mcell, (x.mother, ((x.cells_lo, x.cells_len), (x.intact, ()))))), (x.xs, (x.bs, (x.es, ()))))))
structure z0X where
  r : Bool

def z0 : Pt z0X where
  own := []
  t := ⟨[(6, .c (.bo))], []⟩
  to := fun v => ⟨v.1.1⟩
  fr := fun x => ((x.r, ()), ())
noncomputable def s0 (x : p0X) : Option (p0X ⊕ (q0X ⊕ z0X)) :=
  bif bif bif x.g != 0 then decide (x.i < (↑x.b_len : Int)) else false then decide (x.i < (↑x.a_len : Int)) else false then
  bif inR x.i x.b_len then
    bif decide (x.b_lo + x.i.toNat < x.bs.length) then
      bif inR x.i x.a_len then
        bif decide (x.a_lo + x.i.toNat < x.es.length) then
          bif x.bs[x.b_lo + x.i.toNat]?.getD 0 != x.es[x.a_lo + x.i.toNat]?.getD 0 then some (Sum.inr (Sum.inr { r := false }))
          else
            some
              (Sum.inl
                { addr := x.addr, b_lo := x.b_lo, b_len := x.b_len, b_cap := x.b_cap, g := x.g, a_lo := x.a_lo, a_len := x.a_len, a_cap := x.a_cap, i := IntKind.i64.wrap (x.i + 1),
                  size := x.size, start := x.start, cls := x.cls, cell := x.cell, other := x.other, mcls := x.mcls, mcell := x.mcell, mother := x.mother, cells_lo := x.cells_lo,
                  cells_len := x.cells_len, intact := x.intact, xs := x.xs, bs := x.bs, es := x.es })
        else none
      else none
    else none
  else none
else
  some
    (Sum.inr
      (Sum.inl
        { addr := x.addr, b_lo := x.b_lo, b_len := x.b_len, b_cap := x.b_cap, a_lo := x.a_lo, a_len := x.a_len, a_cap := x.a_cap, size := x.size, start := x.start, cls := x.cls,
          cell := x.cell, other := x.other, mcls := x.mcls, mcell := x.mcell, mother := x.mother, cells_lo := x.cells_lo, cells_len := x.cells_len, intact := x.intact, xs := x.xs,
          bs := x.bs, es := x.es }))
theorem s0_eq (x : p0X) : exec E1 158 (C5.bodyAt 0) 1 (p0.R x) (p0.H x) (roundK2 0 p0 (.exit 0) q0 .ret z0) = s0 x := by kernel_rfl
noncomputable def l0 : LoopS := mkLoop2 0 p0 (.exit 0) q0 .ret z0 s0
theorem t0 : topL (C5.bodyAt 0) 1 = [] := by kernel_rfl
theorem l0_ok : LoopOkS Try.prog 158 none 0 (C5.bodyAt 0) l0 := mkLoop2_ok mixed (env_ok ty_ok cl_ok _) (by trivial) (by trivial) (fun _ => rfl) (fun _ => rfl) (fun _ => rfl) (t0 ▸ (AllL.nil)) s0_eq
noncomputable def E0 : Env := ⟨ty, cfOf cl, lpOf [(0, l0)]⟩
noncomputable def m (x : gX) : Option fY :=
  bindO (F10.m { size := x.size, start := x.start, cls := x.cls, cell := x.cell, other := x.other }) fun y =>
  bif y.fst != 0 then some false
  else
    bindO
      (F19.m
        { cls := y.snd.fst, cell := y.snd.snd.fst, other := y.snd.snd.snd.fst, cells_lo := y.snd.snd.snd.snd.fst, cells_len := y.snd.snd.snd.snd.snd.fst,
          intact := y.snd.snd.snd.snd.snd.snd.fst, xs := y.snd.snd.snd.snd.snd.snd.snd })
      fun y =>
      bindO (bif !decide (x.addr < 0) then F14.m { size := x.size, start := x.start, cls := x.cls, cell := x.cell, other := x.other } else some (Int.ofNat 0)) fun y_1 =>
        bindO
          (F17.m
            { addr := x.addr, cls := y.snd.snd.snd.fst, cell := y.snd.snd.snd.snd.fst, other := y.snd.snd.snd.snd.snd.fst, cells_lo := y.snd.snd.snd.snd.snd.snd.fst,
              cells_len := y.snd.snd.snd.snd.snd.snd.snd.fst, intact := y.snd.snd.snd.snd.snd.snd.snd.snd.fst, xs := y.snd.snd.snd.snd.snd.snd.snd.snd.snd.fst })
          fun y_2 =>
          bif bif !(y_2.snd.fst == 1) == bif decide (x.addr < 0) then true else decide (x.addr ≥ y_1) then true else bif y_2.snd.fst != 0 then y_2.snd.fst != 1 else false then
            some false
          else
            bindO
              (F15.m
                { addr := x.addr, v := x.v, cls := y_2.snd.snd.fst, cell := y_2.snd.snd.snd.fst, other := y_2.snd.snd.snd.snd.fst, cells_lo := y_2.snd.snd.snd.snd.snd.fst,
                  cells_len := y_2.snd.snd.snd.snd.snd.snd.fst, intact := y_2.snd.snd.snd.snd.snd.snd.snd.fst, xs := y_2.snd.snd.snd.snd.snd.snd.snd.snd })
              fun y_3 =>
              bif
                  bif !(y_3.fst == 1) == bif bif decide (x.addr < 0) then true else decide (x.addr ≥ y_1) then true else decide (x.v > 1) then true
                  else bif y_3.fst != 0 then y_3.fst != 1 else false then
                some false
              else
                bindO
                  (F19.m
                    { cls := y_3.snd.fst, cell := y_3.snd.snd.fst, other := y_3.snd.snd.snd.fst, cells_lo := y_3.snd.snd.snd.snd.fst, cells_len := y_3.snd.snd.snd.snd.snd.fst,
                      intact := y_3.snd.snd.snd.snd.snd.snd.fst, xs := y_3.snd.snd.snd.snd.snd.snd.snd })
                  fun y_4 =>
                  bindO
                    (iter s0
                      { addr := x.addr, b_lo := y.fst, b_len := y.snd.fst, b_cap := y.snd.snd.fst, g := y_3.fst, a_lo := y_4.fst, a_len := y_4.snd.fst, a_cap := y_4.snd.snd.fst,
                        i := 0, size := x.size, start := x.start, cls := x.cls, cell := x.cell, other := x.other, mcls := y_4.snd.snd.snd.fst, mcell := y_4.snd.snd.snd.snd.fst,
                        mother := y_4.snd.snd.snd.snd.snd.fst, cells_lo := y_4.snd.snd.snd.snd.snd.snd.fst, cells_len := y_4.snd.snd.snd.snd.snd.snd.snd.fst,
                        intact := y_4.snd.snd.snd.snd.snd.snd.snd.snd.fst, xs := y_4.snd.snd.snd.snd.snd.snd.snd.snd.snd.fst, bs := y.snd.snd.snd.snd.snd.snd.snd.snd.snd.snd,
                        es := y_4.snd.snd.snd.snd.snd.snd.snd.snd.snd.snd })
                    fun s =>
                    sumC s
                      (fun y =>
                        bindO (F17n.m { addr := y.addr }) fun y_5 =>
                          bindO (F17z.m { addr := y.addr, cls := 0, cell := 0, other := 0, intact := false }) fun y_6 =>
                            bindO (F14.m { size := y.size, start := y.start, cls := y.cls, cell := y.cell, other := y.other }) fun y_7 =>
                              bindO
                                (bif
                                    bif bif bif (↑y.b_len : Int) == y_7 then (↑y.a_len : Int) == (↑y.b_len : Int) else false then y_5.snd == 2 else false then y_6.snd.fst == 2
                                    else false then
                                  F15n.m { addr := y.addr, v := 0 }
                                else some (Int.ofNat 0))
                                fun y_8 =>
                                bindO
                                  (bif
                                      bif
                                          bif bif bif (↑y.b_len : Int) == y_7 then (↑y.a_len : Int) == (↑y.b_len : Int) else false then y_5.snd == 2 else false then
                                            y_6.snd.fst == 2
                                          else false then
                                        y_8 == 2
                                      else false then
                                    F15z.m { addr := y.addr, v := 0, cls := 0, cell := 0, other := 0, intact := false }
                                  else some (Int.ofNat 0, Int.ofNat 0, Int.ofNat 0, Int.ofNat 0, false))
                                  fun y_9 =>
                                  bindO
                                    (bif
                                        bif
                                            bif
                                                bif bif bif (↑y.b_len : Int) == y_7 then (↑y.a_len : Int) == (↑y.b_len : Int) else false then y_5.snd == 2 else false then
                                                  y_6.snd.fst == 2
                                                else false then
                                              y_8 == 2
                                            else false then
                                          y_9.fst == 2
                                        else false then
                                      F19n.m PUnit.unit
                                    else some PUnit.unit)
                                    fun y_10 =>
                                    bindO
                                      (bif
                                          bif
                                              bif
                                                  bif bif bif (↑y.b_len : Int) == y_7 then (↑y.a_len : Int) == (↑y.b_len : Int) else false then y_5.snd == 2 else false then
                                                    y_6.snd.fst == 2
                                                  else false then
                                                y_8 == 2
                                              else false then
                                            y_9.fst == 2
                                          else false then
                                        F19z.m { cls := 0, cell := 0, other := 0, intact := false }
                                      else some (Int.ofNat 0, Int.ofNat 0, Int.ofNat 0, false))
                                      fun y_11 =>
                                      bindO
                                        (bif
                                            bif
                                                bif
                                                    bif
                                                        bif bif bif (↑y.b_len : Int) == y_7 then (↑y.a_len : Int) == (↑y.b_len : Int) else false then y_5.snd == 2 else false then
                                                          y_6.snd.fst == 2
                                                        else false then
                                                      y_8 == 2
                                                    else false then
                                                  y_9.fst == 2
                                                else false then
                                              true
                                            else false then
                                          some PUnit.unit
                                        else some PUnit.unit)
                                        fun y_12 =>
                                        some
                                          (bif
                                              bif
                                                  bif
                                                      bif
                                                          bif bif bif (↑y.b_len : Int) == y_7 then (↑y.a_len : Int) == (↑y.b_len : Int) else false then y_5.snd == 2 else false then
                                                            y_6.snd.fst == 2
                                                          else false then
                                                        y_8 == 2
                                                      else false then
                                                    y_9.fst == 2
                                                  else false then
                                                true
                                              else false then
                                            true
                                          else false))
                      fun z => some z.r
theorem m_eq (x : gX) : exec E0 158 C5 0 (initS 0 (g.A x)) (g.H x) (finish 0 ty [.tmp 6] f) = m x := by kernel_rfl
theorem tl : topL C5 0 = [(0, C5.bodyAt 0)] := by kernel_rfl
theorem known : Known Try.prog 5 g f m :=
  mk_known mixed (env_ok ty_ok cl_ok _) s5 rfl rfl tl (AllL.cons rfl l0_ok AllL.nil) (fun _ _ => ⟨rfl, rfl⟩) (fun _ _ => ⟨rfl, rfl⟩) m_eq
noncomputable def con : Con := conT g f m default
theorem con_ok : ConOk Try.prog 5 con := conT_ok known (fun _ => rfl) rfl
end F5
end Go.Proofs.Ythchfbanjeiieaa
