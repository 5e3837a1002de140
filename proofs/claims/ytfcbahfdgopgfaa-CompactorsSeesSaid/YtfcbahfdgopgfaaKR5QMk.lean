/-
  What the proof stands on.
-/
import Derived.Test.YtfcbahfdgopgfaaKR5QK9
import Derived.Test.YtfcbahfdgopgfaaKR5QSyJ
import Derived.Test.YtfcbahfdgopgfaaKR5QK4
import Derived.Test.YtfcbahfdgopgfaaKR5QK5
/-
  The functions of compactors, run on symbolic values.
-/
set_option linter.unusedSimpArgs false
set_option linter.unusedVariables false
namespace Go.Proofs.Ytfcbahfdgopgfaa
open Go.Abs

set_option maxRecDepth 100000
namespace F27
structure gX where
  x : Int
  n : Int

def g : Sg gX where
  vs := [.c (.it .u64), .c (.it .i64)]
  h := []
  to := fun a b => ⟨a.1, a.2.1⟩
  fa := fun x => (x.x, (x.n, ()))
  fh := fun x => ()
abbrev fY := Bool
def f : Ft fY where
  ord := none
  sh := .c (.bo)
  h := []
  to := fun a b => (a)
  fv := fun y => y
  fh := fun y => ()
def cl : List (FuncId × Con) := []
theorem cl_ok : allCon Try.prog cl := trivial
def E0 : Env := ⟨ty, cfOf cl, fun _ => none⟩
def m (x : gX) : Option fY :=
  bif decide (0 ≤ x.n) || !decide (x.n < 64) then some (bif decide (x.n < 64) then x.x.fdiv (2 ^ min x.n.toNat 64) != 0 else false) else none
theorem m_eq (x : gX) : exec E0 13 C27 0 (initS 0 (g.A x)) (g.H x) (finish 0 ty [.tmp 4] f) = m x := by kernel_rfl
theorem tl : topL C27 0 = [] := by kernel_rfl
theorem known : Known Try.prog 27 g f m :=
  mk_known mixed (env_ok ty_ok cl_ok _) s27 rfl rfl tl AllL.nil (fun _ _ => ⟨rfl, rfl⟩) (fun _ _ => ⟨rfl, rfl⟩) m_eq
def con : Con := conT g f m default
theorem con_ok : ConOk Try.prog 27 con := conT_ok known (fun _ => rfl) rfl
end F27
namespace F28
structure gX where
  x : Int
  i : Int

def g : Sg gX where
  vs := [.c (.it .u64), .c (.it .i64)]
  h := []
  to := fun a b => ⟨a.1, a.2.1⟩
  fa := fun x => (x.x, (x.i, ()))
  fh := fun x => ()
abbrev fY := Bool
def f : Ft fY where
  ord := none
  sh := .c (.bo)
  h := []
  to := fun a b => (a)
  fv := fun y => y
  fh := fun y => ()
def cl : List (FuncId × Con) := []
theorem cl_ok : allCon Try.prog cl := trivial
def E0 : Env := ⟨ty, cfOf cl, fun _ => none⟩
def m (x : gX) : Option fY :=
  bif decide (0 ≤ x.i) then some (IntKind.u64.wrap (↑(BitVec.ofInt 64 (x.x.fdiv (2 ^ min x.i.toNat 64)) &&& BitVec.ofInt 64 1).toNat : Int) == 1) else none
theorem m_eq (x : gX) : exec E0 10 C28 0 (initS 0 (g.A x)) (g.H x) (finish 0 ty [.tmp 4] f) = m x := by kernel_rfl
theorem tl : topL C28 0 = [] := by kernel_rfl
theorem known : Known Try.prog 28 g f m :=
  mk_known mixed (env_ok ty_ok cl_ok _) s28 rfl rfl tl AllL.nil (fun _ _ => ⟨rfl, rfl⟩) (fun _ _ => ⟨rfl, rfl⟩) m_eq
def con : Con := conT g f m default
theorem con_ok : ConOk Try.prog 28 con := conT_ok known (fun _ => rfl) rfl
end F28
namespace F35
structure gX where
  v : Int

def g : Sg gX where
  vs := [.c (.it .u8)]
  h := []
  to := fun a b => ⟨a.1⟩
  fa := fun x => (x.v, ())
  fh := fun x => ()
abbrev fY := Bool
def f : Ft fY where
  ord := none
  sh := .c (.bo)
  h := []
  to := fun a b => (a)
  fv := fun y => y
  fh := fun y => ()
def cl : List (FuncId × Con) := []
theorem cl_ok : allCon Try.prog cl := trivial
def E0 : Env := ⟨ty, cfOf cl, fun _ => none⟩
def m (x : gX) : Option fY :=
  some (decide (x.v > 2))
theorem m_eq (x : gX) : exec E0 5 C35 0 (initS 0 (g.A x)) (g.H x) (finish 0 ty [.tmp 2] f) = m x := by kernel_rfl
theorem tl : topL C35 0 = [] := by kernel_rfl
theorem known : Known Try.prog 35 g f m :=
  mk_known mixed (env_ok ty_ok cl_ok _) s35 rfl rfl tl AllL.nil (fun _ _ => ⟨rfl, rfl⟩) (fun _ _ => ⟨rfl, rfl⟩) m_eq
def con : Con := conT g f m default
theorem con_ok : ConOk Try.prog 35 con := conT_ok known (fun _ => rfl) rfl
end F35
namespace F40
structure gX where
  s : List (Int)

def g : Sg gX where
  vs := [.c (.arr (.int .u8)), .c (.fn 35)]
  h := []
  to := fun a b => ⟨a.1⟩
  fa := fun x => (x.s, ((), ()))
  fh := fun x => ()
abbrev fY := Int
def f : Ft fY where
  ord := none
  sh := .c (.it .i64)
  h := []
  to := fun a b => (a)
  fv := fun y => y
  fh := fun y => ()
def cl : List (FuncId × Con) := [(35, F35.con)]
theorem cl_ok : allCon Try.prog cl := ⟨F35.con_ok, trivial⟩
def E1 : Env := ⟨ty, cfOf cl, fun _ => none⟩
structure p0X where
  s : List (Int)
  n : Int
  i : Int

def p0 : Pt p0X where
  own := []
  t := ⟨[(0, .c (.arr (.int .u8))), (1, .c (.fn 35)), (7, .c (.it .i64)), (8, .c (.it .i64))], []⟩
  to := fun v => ⟨v.1.1, v.1.2.2.1, v.1.2.2.2.1⟩
  fr := fun x => ((x.s, ((), (x.n, (x.i, ())))), ())
abbrev q0X := Unit
def q0 : Pt q0X where
  own := []
  t := ⟨[], []⟩
  to := fun v => ()
  fr := fun x => ((), ())
structure z0X where
  r : Int

def z0 : Pt z0X where
  own := []
  t := ⟨[(4, .c (.it .i64))], []⟩
  to := fun v => ⟨v.1.1⟩
  fr := fun x => ((x.r, ()), ())
def s0 (x : p0X) : Option (p0X ⊕ (q0X ⊕ z0X)) :=
  bif decide (x.i < x.n) then
  bif inR x.i x.s.length then
    bindO (F35.m { v := x.s[x.i.toNat]?.getD 0 }) fun y =>
      bif y then some (Sum.inr (Sum.inr { r := x.i })) else some (Sum.inl { s := x.s, n := x.n, i := IntKind.i64.wrap (x.i + 1) })
  else none
else some (Sum.inr (Sum.inl PUnit.unit))
theorem s0_eq (x : p0X) : exec E1 19 (C40.bodyAt 0) 1 (p0.R x) (p0.H x) (roundK2 0 p0 (.exit 0) q0 .ret z0) = s0 x := by kernel_rfl
noncomputable def l0 : LoopS := mkLoop2 0 p0 (.exit 0) q0 .ret z0 s0
theorem t0 : topL (C40.bodyAt 0) 1 = [] := by kernel_rfl
theorem l0_ok : LoopOkS Try.prog 19 none 0 (C40.bodyAt 0) l0 := mkLoop2_ok mixed (env_ok ty_ok cl_ok _) (by trivial) (by trivial) (fun _ => rfl) (fun _ => rfl) (fun _ => rfl) (t0 ▸ (AllL.nil)) s0_eq
noncomputable def E0 : Env := ⟨ty, cfOf cl, lpOf [(0, l0)]⟩
noncomputable def m (x : gX) : Option fY :=
  bindO (iter s0 { s := x.s, n := (↑x.s.length : Int), i := 0 }) fun s => sumC s (fun y => some (-1)) fun z => some z.r
theorem m_eq (x : gX) : exec E0 19 C40 0 (initS 0 (g.A x)) (g.H x) (finish 0 ty [.tmp 4] f) = m x := by kernel_rfl
theorem tl : topL C40 0 = [(0, C40.bodyAt 0)] := by kernel_rfl
theorem known : Known Try.prog 40 g f m :=
  mk_known mixed (env_ok ty_ok cl_ok _) s40 rfl rfl tl (AllL.cons rfl l0_ok AllL.nil) (fun _ _ => ⟨rfl, rfl⟩) (fun _ _ => ⟨rfl, rfl⟩) m_eq
noncomputable def con : Con := conT g f m default
theorem con_ok : ConOk Try.prog 40 con := conT_ok known (fun _ => rfl) rfl
end F40
namespace F34
structure gX where
  s : List (Int)

def g : Sg gX where
  vs := [.c (.arr (.int .u8)), .c (.fn 35)]
  h := []
  to := fun a b => ⟨a.1⟩
  fa := fun x => (x.s, ((), ()))
  fh := fun x => ()
abbrev fY := Bool
def f : Ft fY where
  ord := none
  sh := .c (.bo)
  h := []
  to := fun a b => (a)
  fv := fun y => y
  fh := fun y => ()
noncomputable def cl : List (FuncId × Con) := [(40, F40.con)]
theorem cl_ok : allCon Try.prog cl := ⟨F40.con_ok, trivial⟩
noncomputable def E0 : Env := ⟨ty, cfOf cl, fun _ => none⟩
noncomputable def m (x : gX) : Option fY :=
  bindO (F40.m { s := x.s }) fun y => some (decide (y ≥ 0))
theorem m_eq (x : gX) : exec E0 9 C34 0 (initS 0 (g.A x)) (g.H x) (finish 0 ty [.tmp 4] f) = m x := by kernel_rfl
theorem tl : topL C34 0 = [] := by kernel_rfl
theorem known : Known Try.prog 34 g f m :=
  mk_known mixed (env_ok ty_ok cl_ok _) s34 rfl rfl tl AllL.nil (fun _ _ => ⟨rfl, rfl⟩) (fun _ _ => ⟨rfl, rfl⟩) m_eq
noncomputable def con : Con := conT g f m default
theorem con_ok : ConOk Try.prog 34 con := conT_ok known (fun _ => rfl) rfl
end F34
namespace F37
structure gX where
  x : Int
  outs : Int
  cols : List (Int)

def g : Sg gX where
  vs := [.c (.it .u64), .c (.ptr 0 0)]
  h := [.st [.it .i64, .arr (.int .u64)] 1 0]
  to := fun a b => ⟨a.1, b.1.1, b.1.2.1⟩
  fa := fun x => (x.x, ((), ()))
  fh := fun x => ((x.outs, (x.cols, ())), ())
abbrev fY := Bool × Int × List (Int)
def f : Ft fY where
  ord := none
  sh := .c (.bo)
  h := [.st [.it .i64, .arr (.int .u64)] 1 0]
  to := fun a b => (a, b.1.1, b.1.2.1)
  fv := fun y => y.1
  fh := fun y => ((y.2.1, (y.2.2, ())), ())
def cl : List (FuncId × Con) := [(27, F27.con)]
theorem cl_ok : allCon Try.prog cl := ⟨F27.con_ok, trivial⟩
def E0 : Env := ⟨ty, cfOf cl, fun _ => none⟩
def m (x : gX) : Option fY :=
  bindO (F27.m { x := x.x, n := x.outs }) fun y => some (y, x.outs, x.cols)
theorem m_eq (x : gX) : exec E0 8 C37 0 (initS 0 (g.A x)) (g.H x) (finish 1 ty [.tmp 3] f) = m x := by kernel_rfl
theorem tl : topL C37 0 = [] := by kernel_rfl
theorem known : Known Try.prog 37 g f m :=
  mk_known mixed (env_ok ty_ok cl_ok _) s37 rfl rfl tl AllL.nil (fun _ _ => ⟨rfl, rfl⟩) (fun _ _ => ⟨rfl, rfl⟩) m_eq
theorem hh {x : gX} {y : fY} (h : m x = some y) : f.H y = g.H x := by
  unfold m at h
  obtain ⟨r, h1, h2⟩ := bindO_some h
  cases h2; rfl
def con : Con := conR g [.arg 1 0] f m default
theorem con_ok : ConOk Try.prog 37 con := conR_ok known (fun _ => rfl) (fun _ _ h => by exact hh h)
end F37
namespace F41
structure gX where
  s : List (Int)
  outs : Int
  cols : List (Int)

def g : Sg gX where
  vs := [.c (.arr (.int .u64)), .c (.clo 37 [⟨0, 0, 0⟩])]
  h := [.st [.it .i64, .arr (.int .u64)] 1 0]
  to := fun a b => ⟨a.1, b.1.1, b.1.2.1⟩
  fa := fun x => (x.s, ((), ()))
  fh := fun x => ((x.outs, (x.cols, ())), ())
abbrev fY := Int × Int × List (Int)
def f : Ft fY where
  ord := none
  sh := .c (.it .i64)
  h := [.st [.it .i64, .arr (.int .u64)] 1 0]
  to := fun a b => (a, b.1.1, b.1.2.1)
  fv := fun y => y.1
  fh := fun y => ((y.2.1, (y.2.2, ())), ())
def cl : List (FuncId × Con) := [(37, F37.con)]
theorem cl_ok : allCon Try.prog cl := ⟨F37.con_ok, trivial⟩
def E1 : Env := ⟨ty, cfOf cl, fun _ => none⟩
structure p0X where
  s : List (Int)
  n : Int
  i : Int
  outs : Int
  cols : List (Int)

def p0 : Pt p0X where
  own := []
  t := ⟨[(0, .c (.arr (.int .u64))), (1, .c (.clo 37 [⟨0, 0, 0⟩])), (7, .c (.it .i64)), (8, .c (.it .i64))], [.st [.it .i64, .arr (.int .u64)] 1 0]⟩
  to := fun v => ⟨v.1.1, v.1.2.2.1, v.1.2.2.2.1, v.2.1.1, v.2.1.2.1⟩
  fr := fun x => ((x.s, ((), (x.n, (x.i, ())))), ((x.outs, (x.cols, ())), ()))
structure q0X where
  outs : Int
  cols : List (Int)

def q0 : Pt q0X where
  own := []
  t := ⟨[], [.st [.it .i64, .arr (.int .u64)] 1 0]⟩
  to := fun v => ⟨v.2.1.1, v.2.1.2.1⟩
  fr := fun x => ((), ((x.outs, (x.cols, ())), ()))
structure z0X where
  r : Int
  outs : Int
  cols : List (Int)

def z0 : Pt z0X where
  own := []
  t := ⟨[(4, .c (.it .i64))], [.st [.it .i64, .arr (.int .u64)] 1 0]⟩
  to := fun v => ⟨v.1.1, v.2.1.1, v.2.1.2.1⟩
  fr := fun x => ((x.r, ()), ((x.outs, (x.cols, ())), ()))
def s0 (x : p0X) : Option (p0X ⊕ (q0X ⊕ z0X)) :=
  bif decide (x.i < x.n) then
  bif inR x.i x.s.length then
    bindO (F37.m { x := x.s[x.i.toNat]?.getD 0, outs := x.outs, cols := x.cols }) fun y =>
      bif y.fst then some (Sum.inr (Sum.inr { r := x.i, outs := x.outs, cols := x.cols }))
      else some (Sum.inl { s := x.s, n := x.n, i := IntKind.i64.wrap (x.i + 1), outs := x.outs, cols := x.cols })
  else none
else some (Sum.inr (Sum.inl { outs := x.outs, cols := x.cols }))
theorem s0_eq (x : p0X) : exec E1 19 (C41.bodyAt 0) 1 (p0.R x) (p0.H x) (roundK2 1 p0 (.exit 0) q0 .ret z0) = s0 x := by kernel_rfl
noncomputable def l0 : LoopS := mkLoop2 1 p0 (.exit 0) q0 .ret z0 s0
theorem t0 : topL (C41.bodyAt 0) 1 = [] := by kernel_rfl
theorem l0_ok : LoopOkS Try.prog 19 none 1 (C41.bodyAt 0) l0 := mkLoop2_ok mixed (env_ok ty_ok cl_ok _) (by trivial) (by trivial) (fun _ => rfl) (fun _ => rfl) (fun _ => rfl) (t0 ▸ (AllL.nil)) s0_eq
noncomputable def E0 : Env := ⟨ty, cfOf cl, lpOf [(0, l0)]⟩
noncomputable def m (x : gX) : Option fY :=
  bindO (iter s0 { s := x.s, n := (↑x.s.length : Int), i := 0, outs := x.outs, cols := x.cols }) fun s =>
  sumC s (fun y => some (-1, y.outs, y.cols)) fun z => some (z.r, z.outs, z.cols)
theorem m_eq (x : gX) : exec E0 19 C41 0 (initS 0 (g.A x)) (g.H x) (finish 1 ty [.tmp 4] f) = m x := by kernel_rfl
theorem tl : topL C41 0 = [(0, C41.bodyAt 0)] := by kernel_rfl
theorem known : Known Try.prog 41 g f m :=
  mk_known mixed (env_ok ty_ok cl_ok _) s41 rfl rfl tl (AllL.cons rfl l0_ok AllL.nil) (fun _ _ => ⟨rfl, rfl⟩) (fun _ _ => ⟨rfl, rfl⟩) m_eq
theorem hh {x : gX} {y : fY} (h : m x = some y) : f.H y = g.H x := by
  unfold m at h
  obtain ⟨r, h1, h2⟩ := bindO_some h
  have h3 := iter_keep (fun z => z.outs = x.outs ∧ z.cols = x.cols) (fun r => match r with | .inl y => y.outs = x.outs ∧ y.cols = x.cols | .inr z => z.outs = x.outs ∧ z.cols = x.cols) (fun z r hz hr => by
    unfold s0 at hr
    rcases cond_some hr with ⟨_, hr⟩ | ⟨_, hr⟩
    · rcases cond_some hr with ⟨_, hr⟩ | ⟨_, hr⟩
      · obtain ⟨b, _, hr⟩ := bindO_some hr
        rcases cond_some hr with ⟨_, hr⟩ | ⟨_, hr⟩ <;> (cases hr; exact hz)
      · cases hr
    · cases hr; exact hz) ⟨rfl, rfl⟩ h1
  rcases sumC_some h2 with ⟨z, rfl, h4⟩ | ⟨z, rfl, h4⟩ <;> (cases h4; obtain ⟨e1, e2⟩ := h3; simp only [Ft.H, Sg.H, f, g, e1, e2])
noncomputable def con : Con := conR g [.arg 1 0] f m default
theorem con_ok : ConOk Try.prog 41 con := conR_ok known (fun _ => rfl) (fun _ _ h => by exact hh h)
end F41
namespace F36
structure gX where
  s : List (Int)
  outs : Int
  cols : List (Int)

def g : Sg gX where
  vs := [.c (.arr (.int .u64)), .c (.clo 37 [⟨0, 0, 0⟩])]
  h := [.st [.it .i64, .arr (.int .u64)] 1 0]
  to := fun a b => ⟨a.1, b.1.1, b.1.2.1⟩
  fa := fun x => (x.s, ((), ()))
  fh := fun x => ((x.outs, (x.cols, ())), ())
abbrev fY := Bool × Int × List (Int)
def f : Ft fY where
  ord := none
  sh := .c (.bo)
  h := [.st [.it .i64, .arr (.int .u64)] 1 0]
  to := fun a b => (a, b.1.1, b.1.2.1)
  fv := fun y => y.1
  fh := fun y => ((y.2.1, (y.2.2, ())), ())
noncomputable def cl : List (FuncId × Con) := [(41, F41.con)]
theorem cl_ok : allCon Try.prog cl := ⟨F41.con_ok, trivial⟩
noncomputable def E0 : Env := ⟨ty, cfOf cl, fun _ => none⟩
noncomputable def m (x : gX) : Option fY :=
  bindO (F41.m { s := x.s, outs := x.outs, cols := x.cols }) fun y => some (decide (y.fst ≥ 0), x.outs, x.cols)
theorem m_eq (x : gX) : exec E0 9 C36 0 (initS 0 (g.A x)) (g.H x) (finish 1 ty [.tmp 4] f) = m x := by kernel_rfl
theorem tl : topL C36 0 = [] := by kernel_rfl
theorem known : Known Try.prog 36 g f m :=
  mk_known mixed (env_ok ty_ok cl_ok _) s36 rfl rfl tl AllL.nil (fun _ _ => ⟨rfl, rfl⟩) (fun _ _ => ⟨rfl, rfl⟩) m_eq
theorem hh {x : gX} {y : fY} (h : m x = some y) : f.H y = g.H x := by
  unfold m at h
  obtain ⟨r, h1, h2⟩ := bindO_some h
  cases h2; rfl
noncomputable def con : Con := conR g [.arg 1 0] f m default
theorem con_ok : ConOk Try.prog 36 con := conR_ok known (fun _ => rfl) (fun _ _ h => by exact hh h)
end F36
namespace F26
structure gX where
  outs : Int
  cols : List (Int)

def g : Sg gX where
  vs := [.agg [.it .i64, .arr (.int .u64)]]
  h := []
  to := fun a b => ⟨a.1.1, a.1.2.1⟩
  fa := fun x => ((x.outs, (x.cols, ())), ())
  fh := fun x => ()
abbrev fY := Int
def f : Ft fY where
  ord := none
  sh := .c (.it .i64)
  h := []
  to := fun a b => (a)
  fv := fun y => y
  fh := fun y => ()
noncomputable def cl : List (FuncId × Con) := [(36, F36.con)]
theorem cl_ok : allCon Try.prog cl := ⟨F36.con_ok, trivial⟩
noncomputable def E0 : Env := ⟨ty, cfOf cl, fun _ => none⟩
noncomputable def m (x : gX) : Option fY :=
  bif decide (x.outs < 0) then some 1
else
  bif bif decide (x.outs > 64) then true else decide ((↑x.cols.length : Int) > 64) then some 3
  else bindO (F36.m { s := x.cols, outs := x.outs, cols := x.cols }) fun y => bif y.fst then some 1 else some 0
theorem m_eq (x : gX) : exec E0 22 C26 0 (initS 0 (g.A x)) (g.H x) (finish 0 ty [.tmp 2] f) = m x := by kernel_rfl
theorem tl : topL C26 0 = [] := by kernel_rfl
theorem known : Known Try.prog 26 g f m :=
  mk_known mixed (env_ok ty_ok cl_ok _) s26 rfl rfl tl AllL.nil (fun _ _ => ⟨rfl, rfl⟩) (fun _ _ => ⟨rfl, rfl⟩) m_eq
noncomputable def con : Con := conT g f m default
theorem con_ok : ConOk Try.prog 26 con := conT_ok known (fun _ => rfl) rfl
end F26
end Go.Proofs.Ytfcbahfdgopgfaa
/-
  The functions of compactors, run on symbolic values.
-/
set_option linter.unusedSimpArgs false
set_option linter.unusedVariables false
namespace Go.Proofs.Ytfcbahfdgopgfaa
open Go.Abs

set_option maxRecDepth 100000
namespace F23
structure gX where
  outs : Int
  cols : List (Int)
  mask : Int
  l : List (List (Int))

def g : Sg gX where
  vs := [.agg [.it .i64, .arr (.int .u64)], .c (.it .u64), .c (.arr (.sl (.int .u8)))]
  h := []
  to := fun a b => ⟨a.1.1, a.1.2.1, a.2.1, a.2.2.1⟩
  fa := fun x => ((x.outs, (x.cols, ())), (x.mask, (x.l, ())))
  fh := fun x => ()
abbrev fY := Int
def f : Ft fY where
  ord := none
  sh := .c (.it .i64)
  h := []
  to := fun a b => (a)
  fv := fun y => y
  fh := fun y => ()
noncomputable def cl : List (FuncId × Con) := [(26, F26.con), (34, F34.con), (27, F27.con)]
theorem cl_ok : allCon Try.prog cl := ⟨F26.con_ok, F34.con_ok, F27.con_ok, trivial⟩
noncomputable def E2 : Env := ⟨ty, cfOf cl, fun _ => none⟩
structure p1X where
  mask : Int
  w : List (List (Int))
  n : Int
  i : Int
  outs : Int
  cols : List (Int)

def p1 : Pt p1X where
  own := []
  t := ⟨[(1, .c (.it .u64)), (3, .c (.ptr 0 0)), (30, .c (.arr (.sl (.int .u8)))), (31, .c (.it .i64)), (32, .c (.it .i64))], [.st [.it .i64, .arr (.int .u64)] 1 0]⟩
  to := fun v => ⟨v.1.1, v.1.2.2.1, v.1.2.2.2.1, v.1.2.2.2.2.1, v.2.1.1, v.2.1.2.1⟩
  fr := fun x => ((x.mask, ((), (x.w, (x.n, (x.i, ()))))), ((x.outs, (x.cols, ())), ()))
structure q1X where
  mask : Int
  outs : Int
  cols : List (Int)

def q1 : Pt q1X where
  own := []
  t := ⟨[(1, .c (.it .u64)), (3, .c (.ptr 0 0))], [.st [.it .i64, .arr (.int .u64)] 1 0]⟩
  to := fun v => ⟨v.1.1, v.2.1.1, v.2.1.2.1⟩
  fr := fun x => ((x.mask, ((), ())), ((x.outs, (x.cols, ())), ()))
structure z1X where
  r : Int

def z1 : Pt z1X where
  own := []
  t := ⟨[(6, .c (.it .i64))], []⟩
  to := fun v => ⟨v.1.1⟩
  fr := fun x => ((x.r, ()), ())
noncomputable def s1 (x : p1X) : Option (p1X ⊕ (q1X ⊕ z1X)) :=
  bif decide (x.i < x.n) then
  bif inR x.i x.w.length then
    bindO (F34.m { s := x.w[x.i.toNat]?.getD [] }) fun y =>
      bif y then some (Sum.inr (Sum.inr { r := 1 })) else some (Sum.inl { mask := x.mask, w := x.w, n := x.n, i := IntKind.i64.wrap (x.i + 1), outs := x.outs, cols := x.cols })
  else none
else some (Sum.inr (Sum.inl { mask := x.mask, outs := x.outs, cols := x.cols }))
theorem s1_eq (x : p1X) : exec E2 44 (C23.bodyAt 1) 2 (p1.R x) (p1.H x) (roundK2 0 p1 (.exit 2) q1 .ret z1) = s1 x := by kernel_rfl
noncomputable def l1 : LoopS := mkLoop2 0 p1 (.exit 2) q1 .ret z1 s1
theorem t1 : topL (C23.bodyAt 1) 2 = [] := by kernel_rfl
theorem l1_ok : LoopOkS Try.prog 44 none 0 (C23.bodyAt 1) l1 := mkLoop2_ok mixed (env_ok ty_ok cl_ok _) (by trivial) (by trivial) (fun _ => rfl) (fun _ => rfl) (fun _ => rfl) (t1 ▸ (AllL.nil)) s1_eq
noncomputable def E1 : Env := ⟨ty, cfOf cl, lpOf [(1, l1)]⟩
structure p0X where
  mask : Int
  l : List (List (Int))
  w : List (List (Int))
  n : Int
  i : Int
  outs : Int
  cols : List (Int)

def p0 : Pt p0X where
  own := []
  t := ⟨[(1, .c (.it .u64)), (2, .c (.arr (.sl (.int .u8)))), (3, .c (.ptr 0 0)), (17, .c (.arr (.sl (.int .u8)))), (18, .c (.it .i64)), (19, .c (.it .i64))], [.st [.it .i64, .arr (.int .u64)] 1 0]⟩
  to := fun v => ⟨v.1.1, v.1.2.1, v.1.2.2.2.1, v.1.2.2.2.2.1, v.1.2.2.2.2.2.1, v.2.1.1, v.2.1.2.1⟩
  fr := fun x => ((x.mask, (x.l, ((), (x.w, (x.n, (x.i, ())))))), ((x.outs, (x.cols, ())), ()))
structure q0X where
  mask : Int
  l : List (List (Int))
  outs : Int
  cols : List (Int)

def q0 : Pt q0X where
  own := []
  t := ⟨[(1, .c (.it .u64)), (2, .c (.arr (.sl (.int .u8)))), (3, .c (.ptr 0 0))], [.st [.it .i64, .arr (.int .u64)] 1 0]⟩
  to := fun v => ⟨v.1.1, v.1.2.1, v.2.1.1, v.2.1.2.1⟩
  fr := fun x => ((x.mask, (x.l, ((), ()))), ((x.outs, (x.cols, ())), ()))
structure z0X where
  r : Int

def z0 : Pt z0X where
  own := []
  t := ⟨[(6, .c (.it .i64))], []⟩
  to := fun v => ⟨v.1.1⟩
  fr := fun x => ((x.r, ()), ())
noncomputable def s0 (x : p0X) : Option (p0X ⊕ (q0X ⊕ z0X)) :=
  bif decide (x.i < x.n) then
  bif inR x.i x.w.length then
    bif (↑(List.length (x.w[x.i.toNat]?.getD [])) : Int) != (↑x.cols.length : Int) then some (Sum.inr (Sum.inr { r := 8 }))
    else some (Sum.inl { mask := x.mask, l := x.l, w := x.w, n := x.n, i := IntKind.i64.wrap (x.i + 1), outs := x.outs, cols := x.cols })
  else none
else some (Sum.inr (Sum.inl { mask := x.mask, l := x.l, outs := x.outs, cols := x.cols }))
theorem s0_eq (x : p0X) : exec E1 44 (C23.bodyAt 0) 1 (p0.R x) (p0.H x) (roundK2 0 p0 (.exit 0) q0 .ret z0) = s0 x := by kernel_rfl
noncomputable def l0 : LoopS := mkLoop2 0 p0 (.exit 0) q0 .ret z0 s0
theorem t0 : topL (C23.bodyAt 0) 1 = [] := by kernel_rfl
theorem l0_ok : LoopOkS Try.prog 44 none 0 (C23.bodyAt 0) l0 := mkLoop2_ok mixed (env_ok ty_ok cl_ok _) (by trivial) (by trivial) (fun _ => rfl) (fun _ => rfl) (fun _ => rfl) (t0 ▸ (AllL.nil)) s0_eq
noncomputable def E0 : Env := ⟨ty, cfOf cl, lpOf [(0, l0), (1, l1)]⟩
noncomputable def m (x : gX) : Option fY :=
  bindO (F26.m { outs := x.outs, cols := x.cols }) fun y =>
  bif y != 0 then some y
  else
    bindO (iter s0 { mask := x.mask, l := x.l, w := x.l, n := (↑x.l.length : Int), i := 0, outs := x.outs, cols := x.cols }) fun s =>
      sumC s
        (fun y =>
          bindO (iter s1 { mask := y.mask, w := y.l, n := (↑y.l.length : Int), i := 0, outs := y.outs, cols := y.cols }) fun s =>
            sumC s (fun y => bindO (F27.m { x := y.mask, n := (↑y.cols.length : Int) }) fun y => bif y then some 1 else some 0) fun z => some z.r)
        fun z => some z.r
theorem m_eq (x : gX) : exec E0 44 C23 0 (initS 0 (g.A x)) (g.H x) (finish 0 ty [.tmp 6] f) = m x := by kernel_rfl
theorem tl : topL C23 0 = [(0, C23.bodyAt 0), (1, C23.bodyAt 1)] := by kernel_rfl
theorem known : Known Try.prog 23 g f m :=
  mk_known mixed (env_ok ty_ok cl_ok _) s23 rfl rfl tl (AllL.cons rfl l0_ok (AllL.cons rfl l1_ok AllL.nil)) (fun _ _ => ⟨rfl, rfl⟩) (fun _ _ => ⟨rfl, rfl⟩) m_eq
noncomputable def con : Con := conT g f m default
theorem con_ok : ConOk Try.prog 23 con := conT_ok known (fun _ => rfl) rfl
end F23
namespace F24
structure gX where
  outs : Int
  cols : List (Int)
  s : List (Int)
  mask : Int

def g : Sg gX where
  vs := [.agg [.it .i64, .arr (.int .u64)], .c (.arr (.int .u8)), .c (.it .u64)]
  h := []
  to := fun a b => ⟨a.1.1, a.1.2.1, a.2.1, a.2.2.1⟩
  fa := fun x => ((x.outs, (x.cols, ())), (x.s, (x.mask, ())))
  fh := fun x => ()
abbrev fY := List (Int)
def f : Ft fY where
  ord := none
  sh := .c (.arr (.int .u8))
  h := []
  to := fun a b => (a)
  fv := fun y => y
  fh := fun y => ()
def cl : List (FuncId × Con) := [(28, F28.con)]
theorem cl_ok : allCon Try.prog cl := ⟨F28.con_ok, trivial⟩
def E2 : Env := ⟨ty, cfOf cl, fun _ => none⟩
structure p1X where
  mask : Int
  out_lo : Nat
  out_len : Nat
  out_cap : Nat
  s : List (Int)
  n : Int
  i : Int
  c : Int
  v : Int
  m : Int
  o : Int
  outs : Int
  cols : List (Int)
  xs : List (Int)

def p1 : Pt p1X where
  own := []
  t := ⟨[(2, .c (.it .u64)), (3, .c (.ptr 0 0)), (7, .c (.slc 1 0 1)), (14, .c (.arr (.int .u8))), (15, .c (.it .i64)), (16, .c (.it .i64)), (8, .c (.it .i64)), (9, .c (.it .u8)), (25, .c (.it .i64)), (26, .c (.it .i64))], [.st [.it .i64, .arr (.int .u64)] 1 0, .arr (.int .u8) 0]⟩
  to := fun v => ⟨v.1.1, v.1.2.2.1.1, v.1.2.2.1.2.1, v.1.2.2.1.2.2, v.1.2.2.2.1, v.1.2.2.2.2.1, v.1.2.2.2.2.2.1, v.1.2.2.2.2.2.2.1, v.1.2.2.2.2.2.2.2.1, v.1.2.2.2.2.2.2.2.2.1, v.1.2.2.2.2.2.2.2.2.2.1, v.2.1.1, v.2.1.2.1, v.2.2.1⟩
  fr := fun x => ((x.mask, ((), ((x.out_lo, x.out_len, x.out_cap), (x.s, (x.n, (x.i, (x.c, (x.v, (x.m, (x.o, ())))))))))), ((x.outs, (x.cols, ())), (x.xs, ())))
structure q1X where
  mask : Int
  out_lo : Nat
  out_len : Nat
  out_cap : Nat
  s : List (Int)
  n : Int
  i : Int
  outs : Int
  cols : List (Int)
  xs : List (Int)

def q1 : Pt q1X where
  own := []
  t := ⟨[(2, .c (.it .u64)), (3, .c (.ptr 0 0)), (7, .c (.slc 1 0 1)), (14, .c (.arr (.int .u8))), (15, .c (.it .i64)), (16, .c (.it .i64))], [.st [.it .i64, .arr (.int .u64)] 1 0, .arr (.int .u8) 0]⟩
  to := fun v => ⟨v.1.1, v.1.2.2.1.1, v.1.2.2.1.2.1, v.1.2.2.1.2.2, v.1.2.2.2.1, v.1.2.2.2.2.1, v.1.2.2.2.2.2.1, v.2.1.1, v.2.1.2.1, v.2.2.1⟩
  fr := fun x => ((x.mask, ((), ((x.out_lo, x.out_len, x.out_cap), (x.s, (x.n, (x.i, ())))))), ((x.outs, (x.cols, ())), (x.xs, ())))
def s1 (x : p1X) : Option (p1X ⊕ q1X) :=
  bif decide (x.o < x.m) then
  bif inR x.c x.cols.length then
    bindO (F28.m { x := x.cols[x.c.toNat]?.getD 0, i := x.o }) fun y =>
      bif inR x.o x.out_len || !!!y then
        bif decide (x.out_lo + x.o.toNat < x.xs.length) || !!!y then
          bif bif !y then true else x.xs[x.out_lo + x.o.toNat]?.getD 0 == 2 then
            some
              (Sum.inl
                { mask := x.mask, out_lo := x.out_lo, out_len := x.out_len, out_cap := x.out_cap, s := x.s, n := x.n, i := x.i, c := x.c, v := x.v, m := x.m,
                  o := IntKind.i64.wrap (x.o + 1), outs := x.outs, cols := x.cols, xs := x.xs })
          else
            bif x.v == 2 then
              bif inR x.o x.out_len then
                bif decide (x.out_lo + x.o.toNat < x.xs.length) then
                  some
                    (Sum.inl
                      { mask := x.mask, out_lo := x.out_lo, out_len := x.out_len, out_cap := x.out_cap, s := x.s, n := x.n, i := x.i, c := x.c, v := x.v, m := x.m,
                        o := IntKind.i64.wrap (x.o + 1), outs := x.outs, cols := x.cols, xs := x.xs.set (x.out_lo + x.o.toNat) 2 })
                else none
              else none
            else
              bif inR x.o x.out_len then
                bif decide (x.out_lo + x.o.toNat < x.xs.length) then
                  bif inR x.o x.out_len then
                    bif decide (x.out_lo + x.o.toNat < x.xs.length) then
                      some
                        (Sum.inl
                          { mask := x.mask, out_lo := x.out_lo, out_len := x.out_len, out_cap := x.out_cap, s := x.s, n := x.n, i := x.i, c := x.c, v := x.v, m := x.m,
                            o := IntKind.i64.wrap (x.o + 1), outs := x.outs, cols := x.cols,
                            xs := x.xs.set (x.out_lo + x.o.toNat) (IntKind.u8.wrap (↑(BitVec.ofInt 8 (x.xs[x.out_lo + x.o.toNat]?.getD 0) ^^^ BitVec.ofInt 8 x.v).toNat : Int)) })
                    else none
                  else none
                else none
              else none
        else none
      else none
  else none
else some (Sum.inr { mask := x.mask, out_lo := x.out_lo, out_len := x.out_len, out_cap := x.out_cap, s := x.s, n := x.n, i := x.i, outs := x.outs, cols := x.cols, xs := x.xs })
theorem s1_eq (x : p1X) : exec E2 61 (C24.bodyAt 1) 2 (p1.R x) (p1.H x) (roundK 0 p1 (.exit 2) q1) = s1 x := by kernel_rfl
noncomputable def l1 : LoopS := mkLoop 0 p1 (.exit 2) q1 s1
theorem t1 : topL (C24.bodyAt 1) 2 = [] := by kernel_rfl
theorem l1_ok : LoopOkS Try.prog 61 none 0 (C24.bodyAt 1) l1 := mkLoop_ok mixed (env_ok ty_ok cl_ok _) (by trivial) (fun _ => rfl) (fun _ => rfl) (t1 ▸ (AllL.nil)) s1_eq
noncomputable def E1 : Env := ⟨ty, cfOf cl, lpOf [(1, l1)]⟩
structure p0X where
  mask : Int
  out_lo : Nat
  out_len : Nat
  out_cap : Nat
  s : List (Int)
  n : Int
  i : Int
  outs : Int
  cols : List (Int)
  xs : List (Int)

def p0 : Pt p0X where
  own := []
  t := ⟨[(2, .c (.it .u64)), (3, .c (.ptr 0 0)), (7, .c (.slc 1 0 1)), (14, .c (.arr (.int .u8))), (15, .c (.it .i64)), (16, .c (.it .i64))], [.st [.it .i64, .arr (.int .u64)] 1 0, .arr (.int .u8) 0]⟩
  to := fun v => ⟨v.1.1, v.1.2.2.1.1, v.1.2.2.1.2.1, v.1.2.2.1.2.2, v.1.2.2.2.1, v.1.2.2.2.2.1, v.1.2.2.2.2.2.1, v.2.1.1, v.2.1.2.1, v.2.2.1⟩
  fr := fun x => ((x.mask, ((), ((x.out_lo, x.out_len, x.out_cap), (x.s, (x.n, (x.i, ())))))), ((x.outs, (x.cols, ())), (x.xs, ())))
structure q0X where
  out_lo : Nat
  out_len : Nat
  out_cap : Nat
  outs : Int
  cols : List (Int)
  xs : List (Int)

def q0 : Pt q0X where
  own := []
  t := ⟨[(7, .c (.slc 1 0 1))], [.st [.it .i64, .arr (.int .u64)] 1 0, .arr (.int .u8) 0]⟩
  to := fun v => ⟨v.1.1.1, v.1.1.2.1, v.1.1.2.2, v.2.1.1, v.2.1.2.1, v.2.2.1⟩
  fr := fun x => (((x.out_lo, x.out_len, x.out_cap), ()), ((x.outs, (x.cols, ())), (x.xs, ())))
noncomputable def s0 (x : p0X) : Option (p0X ⊕ q0X) :=
  bif decide (x.i < x.n) then
  bif inR x.i x.s.length then
    bindO (F28.m { x := x.mask, i := x.i }) fun y =>
      bif y then
        some
          (Sum.inl
            { mask := x.mask, out_lo := x.out_lo, out_len := x.out_len, out_cap := x.out_cap, s := x.s, n := x.n, i := IntKind.i64.wrap (x.i + 1), outs := x.outs, cols := x.cols,
              xs := x.xs })
      else
        bindO
          (iter s1
            { mask := x.mask, out_lo := x.out_lo, out_len := x.out_len, out_cap := x.out_cap, s := x.s, n := x.n, i := x.i, c := x.i, v := x.s[x.i.toNat]?.getD 0,
              m := (↑x.out_len : Int), o := 0, outs := x.outs, cols := x.cols, xs := x.xs })
          fun y =>
          some
            (Sum.inl
              { mask := y.mask, out_lo := y.out_lo, out_len := y.out_len, out_cap := y.out_cap, s := y.s, n := y.n, i := IntKind.i64.wrap (y.i + 1), outs := y.outs, cols := y.cols,
                xs := y.xs })
  else none
else some (Sum.inr { out_lo := x.out_lo, out_len := x.out_len, out_cap := x.out_cap, outs := x.outs, cols := x.cols, xs := x.xs })
theorem s0_eq (x : p0X) : exec E1 61 (C24.bodyAt 0) 1 (p0.R x) (p0.H x) (roundK 0 p0 (.exit 0) q0) = s0 x := by kernel_rfl
noncomputable def l0 : LoopS := mkLoop 0 p0 (.exit 0) q0 s0
theorem t0 : topL (C24.bodyAt 0) 1 = [(1, C24.bodyAt 1)] := by kernel_rfl
theorem l0_ok : LoopOkS Try.prog 61 none 0 (C24.bodyAt 0) l0 := mkLoop_ok mixed (env_ok ty_ok cl_ok _) (by trivial) (fun _ => rfl) (fun _ => rfl) (t0 ▸ (AllL.cons rfl l1_ok (AllL.nil))) s0_eq
noncomputable def E0 : Env := ⟨ty, cfOf cl, lpOf [(0, l0), (1, l1)]⟩
noncomputable def m (x : gX) : Option fY :=
  bif decide (0 ≤ x.outs) && decide (x.outs ≤ x.outs) && decide (x.outs * (↑1 : Int) ≤ 281474976710656) && decide (x.outs ≤ 9223372036854775807) then
  bindO
    (iter s0
      { mask := x.mask, out_lo := 0, out_len := x.outs.toNat, out_cap := x.outs.toNat, s := x.s, n := (↑x.s.length : Int), i := 0, outs := x.outs, cols := x.cols,
        xs := List.replicate x.outs.toNat 0 })
    fun y => bif leB (y.out_lo + y.out_len) y.xs.length && true && true then some (List.take y.out_len (List.drop y.out_lo y.xs)) else none
else none
theorem m_eq (x : gX) : exec E0 61 C24 0 (initS 0 (g.A x)) (g.H x) (finish 0 ty [.tmp 6] f) = m x := by kernel_rfl
theorem tl : topL C24 0 = [(0, C24.bodyAt 0)] := by kernel_rfl
theorem known : Known Try.prog 24 g f m :=
  mk_known mixed (env_ok ty_ok cl_ok _) s24 rfl rfl tl (AllL.cons rfl l0_ok AllL.nil) (fun _ _ => ⟨rfl, rfl⟩) (fun _ _ => ⟨rfl, rfl⟩) m_eq
noncomputable def con : Con := conT g f m default
theorem con_ok : ConOk Try.prog 24 con := conT_ok known (fun _ => rfl) rfl
end F24
namespace F12
structure gX where
  outs : Int
  cols : List (Int)
  s : List (Int)
  mask : Int

def g : Sg gX where
  vs := [.agg [.it .i64, .arr (.int .u64)], .c (.arr (.int .u8)), .c (.it .u64)]
  h := []
  to := fun a b => ⟨a.1.1, a.1.2.1, a.2.1, a.2.2.1⟩
  fa := fun x => ((x.outs, (x.cols, ())), (x.s, (x.mask, ())))
  fh := fun x => ()
abbrev fY := List (Int) × Int
def f : Ft fY where
  ord := none
  sh := .tup [.inl (.arr (.int .u8)), .inl (.it .i64)]
  h := []
  to := fun a b => (a.1, a.2.1)
  fv := fun y => (y.1, (y.2, ()))
  fh := fun y => ()
noncomputable def cl : List (FuncId × Con) := [(23, F23.con), (24, F24.con)]
theorem cl_ok : allCon Try.prog cl := ⟨F23.con_ok, F24.con_ok, trivial⟩
noncomputable def E0 : Env := ⟨ty, cfOf cl, fun _ => none⟩
noncomputable def m (x : gX) : Option fY :=
  bindO (F23.m { outs := x.outs, cols := x.cols, mask := x.mask, l := [x.s] }) fun y =>
  bif y != 0 then some ([], y) else bindO (F24.m { outs := x.outs, cols := x.cols, s := x.s, mask := x.mask }) fun y => some (y, 0)
theorem m_eq (x : gX) : exec E0 21 C12 0 (initS 0 (g.A x)) (g.H x) (finish 0 ty [.tmp 6, .tmp 7] f) = m x := by kernel_rfl
theorem tl : topL C12 0 = [] := by kernel_rfl
theorem known : Known Try.prog 12 g f m :=
  mk_known mixed (env_ok ty_ok cl_ok _) s12 rfl rfl tl AllL.nil (fun _ _ => ⟨rfl, rfl⟩) (fun _ _ => ⟨rfl, rfl⟩) m_eq
noncomputable def con : Con := conT g f m default
theorem con_ok : ConOk Try.prog 12 con := conT_ok known (fun _ => rfl) rfl
end F12
namespace F25
structure gX where
  s_lo : Nat
  s_len : Nat
  xs : List (Int)

def g : Sg gX where
  vs := [.c (.sl 0 0 1)]
  h := [.arr (.int .i64) 0]
  to := fun a b => ⟨a.1.1, a.1.2, b.1⟩
  fa := fun x => ((x.s_lo, x.s_len), ())
  fh := fun x => (x.xs, ())
abbrev fY := Nat × Nat × Nat × List (Int)
def f : Ft fY where
  ord := none
  sh := .c (.slc 0 0 1)
  h := [.arr (.int .i64) 0]
  to := fun a b => (a.1, a.2.1, a.2.2, b.1)
  fv := fun y => (y.1, y.2.1, y.2.2.1)
  fh := fun y => (y.2.2.2, ())
def cl : List (FuncId × Con) := []
theorem cl_ok : allCon Try.prog cl := trivial
def E0 : Env := ⟨ty, cfOf cl, fun _ => none⟩
def m (x : gX) : Option fY :=
  bif
    decide (0 ≤ (↑x.s_len : Int)) && decide ((↑x.s_len : Int) ≤ (↑x.s_len : Int)) &&
      (decide (0 ≤ (↑x.s_len : Int)) && decide ((↑x.s_len : Int) ≤ (↑(↑x.s_len : Int).toNat : Int))) then
  some (x.s_lo, (↑x.s_len : Int).toNat, (↑x.s_len : Int).toNat, x.xs)
else none
theorem m_eq (x : gX) : exec E0 9 C25 0 (initS 0 (g.A x)) (g.H x) (finish 1 ty [.tmp 2] f) = m x := by kernel_rfl
theorem tl : topL C25 0 = [] := by kernel_rfl
theorem known : Known Try.prog 25 g f m :=
  mk_known mixed (env_ok ty_ok cl_ok _) s25 rfl rfl tl AllL.nil (fun _ _ => ⟨rfl, rfl⟩) (fun _ _ => ⟨rfl, rfl⟩) m_eq
def con : Con := conG g [.arg 0 0] f m default
theorem con_ok : ConOk Try.prog 25 con := conG_ok known
end F25
namespace F13
structure gX where
  outs : Int
  cols : List (Int)
  good : List (Int)
  bad : List (Int)
  mask : Int

def g : Sg gX where
  vs := [.agg [.it .i64, .arr (.int .u64)], .c (.arr (.int .u8)), .c (.arr (.int .u8)), .c (.it .u64)]
  h := []
  to := fun a b => ⟨a.1.1, a.1.2.1, a.2.1, a.2.2.1, a.2.2.2.1⟩
  fa := fun x => ((x.outs, (x.cols, ())), (x.good, (x.bad, (x.mask, ()))))
  fh := fun x => ()
abbrev fY := List (Int) × Int
def f : Ft fY where
  ord := none
  sh := .tup [.inl (.arr (.int .i64)), .inl (.it .i64)]
  h := []
  to := fun a b => (a.1, a.2.1)
  fv := fun y => (y.1, (y.2, ()))
  fh := fun y => ()
noncomputable def cl : List (FuncId × Con) := [(23, F23.con), (24, F24.con), (25, F25.con)]
theorem cl_ok : allCon Try.prog cl := ⟨F23.con_ok, F24.con_ok, F25.con_ok, trivial⟩
noncomputable def E1 : Env := ⟨ty, cfOf cl, fun _ => none⟩
structure p0X where
  out_lo : Nat
  out_len : Nat
  x : List (Int)
  y : List (Int)
  n : Int
  i : Int
  outs : Int
  cols : List (Int)
  xs : List (Int)

def p0 : Pt p0X where
  own := [.reg 11 (.int .i64)]
  t := ⟨[(4, .c (.ptr 0 0)), (11, .c (.sl 1 0 1)), (12, .c (.arr (.int .u8))), (13, .c (.arr (.int .u8))), (33, .c (.it .i64)), (34, .c (.it .i64))], [.st [.it .i64, .arr (.int .u64)] 1 0, .arr (.int .i64) 0]⟩
  to := fun v => ⟨v.1.2.1.1, v.1.2.1.2, v.1.2.2.1, v.1.2.2.2.1, v.1.2.2.2.2.1, v.1.2.2.2.2.2.1, v.2.1.1, v.2.1.2.1, v.2.2.1⟩
  fr := fun x => (((), ((x.out_lo, x.out_len), (x.x, (x.y, (x.n, (x.i, ())))))), ((x.outs, (x.cols, ())), (x.xs, ())))
structure q0X where
  out_lo : Nat
  out_len : Nat
  outs : Int
  cols : List (Int)
  xs : List (Int)

def q0 : Pt q0X where
  own := []
  t := ⟨[(11, .c (.sl 1 0 1))], [.st [.it .i64, .arr (.int .u64)] 1 0, .arr (.int .i64) 0]⟩
  to := fun v => ⟨v.1.1.1, v.1.1.2, v.2.1.1, v.2.1.2.1, v.2.2.1⟩
  fr := fun x => (((x.out_lo, x.out_len), ()), ((x.outs, (x.cols, ())), (x.xs, ())))
noncomputable def s0 (x : p0X) : Option (p0X ⊕ q0X) :=
  bif decide (x.i < x.n) then
  bif inR x.i x.x.length then
    bif inR x.i x.y.length then
      bif IntKind.u8.wrap (x.x[x.i.toNat]?.getD 0 + x.y[x.i.toNat]?.getD 0) == 1 then
        bif eqN x.out_lo 0 && eqN x.xs.length x.out_len && roomB (x.out_len + 1) 8 then
          some
            (Sum.inl { out_lo := 0, out_len := x.out_len + 1, x := x.x, y := x.y, n := x.n, i := IntKind.i64.wrap (x.i + 1), outs := x.outs, cols := x.cols, xs := x.xs ++ [x.i] })
        else none
      else some (Sum.inl { out_lo := x.out_lo, out_len := x.out_len, x := x.x, y := x.y, n := x.n, i := IntKind.i64.wrap (x.i + 1), outs := x.outs, cols := x.cols, xs := x.xs })
    else none
  else none
else some (Sum.inr { out_lo := x.out_lo, out_len := x.out_len, outs := x.outs, cols := x.cols, xs := x.xs })
theorem s0_eq (x : p0X) : exec E1 54 (C13.bodyAt 0) 1 (p0.R x) (p0.H x) (roundK 0 p0 (.exit 0) q0) = s0 x := by kernel_rfl
noncomputable def l0 : LoopS := mkLoop 0 p0 (.exit 0) q0 s0
theorem t0 : topL (C13.bodyAt 0) 1 = [] := by kernel_rfl
theorem l0_ok : LoopOkS Try.prog 54 none 0 (C13.bodyAt 0) l0 := mkLoop_ok mixed (env_ok ty_ok cl_ok _) (by trivial) (fun _ => rfl) (fun _ => rfl) (t0 ▸ (AllL.nil)) s0_eq
noncomputable def E0 : Env := ⟨ty, cfOf cl, lpOf [(0, l0)]⟩
noncomputable def m (x : gX) : Option fY :=
  bindO (F23.m { outs := x.outs, cols := x.cols, mask := x.mask, l := [x.good, x.bad] }) fun y =>
  bif y != 0 then some ([], y)
  else
    bindO (F24.m { outs := x.outs, cols := x.cols, s := x.good, mask := x.mask }) fun y =>
      bindO (F24.m { outs := x.outs, cols := x.cols, s := x.bad, mask := x.mask }) fun y_1 =>
        bindO (iter s0 { out_lo := 0, out_len := 0, x := y, y := y_1, n := x.outs, i := 0, outs := x.outs, cols := x.cols, xs := [] }) fun y =>
          bindO (F25.m { s_lo := y.out_lo, s_len := y.out_len, xs := y.xs }) fun y =>
            bif leB (y.fst + y.snd.fst) y.snd.snd.snd.length && true && true && true then some (List.take y.snd.fst (List.drop y.fst y.snd.snd.snd), 0) else none
theorem m_eq (x : gX) : exec E0 54 C13 0 (initS 0 (g.A x)) (g.H x) (finish 0 ty [.tmp 8, .tmp 9] f) = m x := by kernel_rfl
theorem tl : topL C13 0 = [(0, C13.bodyAt 0)] := by kernel_rfl
theorem known : Known Try.prog 13 g f m :=
  mk_known mixed (env_ok ty_ok cl_ok _) s13 rfl rfl tl (AllL.cons rfl l0_ok AllL.nil) (fun _ _ => ⟨rfl, rfl⟩) (fun _ _ => ⟨rfl, rfl⟩) m_eq
noncomputable def con : Con := conT g f m default
theorem con_ok : ConOk Try.prog 13 con := conT_ok known (fun _ => rfl) rfl
end F13
end Go.Proofs.Ytfcbahfdgopgfaa
/-
  The functions of compactors, run on symbolic values.
-/
set_option linter.unusedSimpArgs false
set_option linter.unusedVariables false
namespace Go.Proofs.Ytfcbahfdgopgfaa
open Go.Abs

set_option maxRecDepth 100000
namespace F14
structure gX where
  s : List (Int)

def g : Sg gX where
  vs := [.c (.arr (.int .u8))]
  h := []
  to := fun a b => ⟨a.1⟩
  fa := fun x => (x.s, ())
  fh := fun x => ()
abbrev fY := Int × Int
def f : Ft fY where
  ord := none
  sh := .tup [.inl (.it .u64), .inl (.it .i64)]
  h := []
  to := fun a b => (a.1, a.2.1)
  fv := fun y => (y.1, (y.2, ()))
  fh := fun y => ()
def cl : List (FuncId × Con) := []
theorem cl_ok : allCon Try.prog cl := trivial
def E1 : Env := ⟨ty, cfOf cl, fun _ => none⟩
structure p0X where
  mask : Int
  s : List (Int)
  n : Int
  i : Int

def p0 : Pt p0X where
  own := []
  t := ⟨[(2, .c (.it .u64)), (9, .c (.arr (.int .u8))), (10, .c (.it .i64)), (11, .c (.it .i64))], []⟩
  to := fun v => ⟨v.1.1, v.1.2.1, v.1.2.2.1, v.1.2.2.2.1⟩
  fr := fun x => ((x.mask, (x.s, (x.n, (x.i, ())))), ())
structure q0X where
  mask : Int

def q0 : Pt q0X where
  own := []
  t := ⟨[(2, .c (.it .u64))], []⟩
  to := fun v => ⟨v.1.1⟩
  fr := fun x => ((x.mask, ()), ())
structure z0X where
  mask : Int
  e : Int

def z0 : Pt z0X where
  own := []
  t := ⟨[(2, .c (.it .u64)), (3, .c (.it .i64))], []⟩
  to := fun v => ⟨v.1.1, v.1.2.1⟩
  fr := fun x => ((x.mask, (x.e, ())), ())
def s0 (x : p0X) : Option (p0X ⊕ (q0X ⊕ z0X)) :=
  bif decide (x.i < x.n) then
  bif inR x.i x.s.length then
    bif decide (x.s[x.i.toNat]?.getD 0 > 2) then some (Sum.inr (Sum.inr { mask := 0, e := 1 }))
    else
      bif bif decide (0 ≤ x.i) && true then true else bif x.s[x.i.toNat]?.getD 0 == 2 then false else true then
        some
          (Sum.inl
            {
              mask :=
                bif x.s[x.i.toNat]?.getD 0 == 2 then IntKind.u64.wrap (↑(BitVec.ofInt 64 x.mask ||| BitVec.ofInt 64 (IntKind.u64.wrap (1 * 2 ^ min x.i.toNat 64))).toNat : Int)
                else x.mask,
              s := x.s, n := x.n, i := IntKind.i64.wrap (x.i + 1) })
      else none
  else none
else some (Sum.inr (Sum.inl { mask := x.mask }))
theorem s0_eq (x : p0X) : exec E1 28 (C14.bodyAt 0) 1 (p0.R x) (p0.H x) (roundK2 0 p0 (.exit 0) q0 .ret z0) = s0 x := by kernel_rfl
noncomputable def l0 : LoopS := mkLoop2 0 p0 (.exit 0) q0 .ret z0 s0
theorem t0 : topL (C14.bodyAt 0) 1 = [] := by kernel_rfl
theorem l0_ok : LoopOkS Try.prog 28 none 0 (C14.bodyAt 0) l0 := mkLoop2_ok mixed (env_ok ty_ok cl_ok _) (by trivial) (by trivial) (fun _ => rfl) (fun _ => rfl) (fun _ => rfl) (t0 ▸ (AllL.nil)) s0_eq
noncomputable def E0 : Env := ⟨ty, cfOf cl, lpOf [(0, l0)]⟩
noncomputable def m (x : gX) : Option fY :=
  bif decide ((↑x.s.length : Int) > 64) then some (0, 3)
else bindO (iter s0 { mask := 0, s := x.s, n := (↑x.s.length : Int), i := 0 }) fun s => sumC s (fun y => some (y.mask, 0)) fun z => some (z.mask, z.e)
theorem m_eq (x : gX) : exec E0 28 C14 0 (initS 0 (g.A x)) (g.H x) (finish 0 ty [.tmp 2, .tmp 3] f) = m x := by kernel_rfl
theorem tl : topL C14 0 = [(0, C14.bodyAt 0)] := by kernel_rfl
theorem known : Known Try.prog 14 g f m :=
  mk_known mixed (env_ok ty_ok cl_ok _) s14 rfl rfl tl (AllL.cons rfl l0_ok AllL.nil) (fun _ _ => ⟨rfl, rfl⟩) (fun _ _ => ⟨rfl, rfl⟩) m_eq
noncomputable def con : Con := conT g f m default
theorem con_ok : ConOk Try.prog 14 con := conT_ok known (fun _ => rfl) rfl
end F14
namespace F10
structure gX where
  outs : Int
  cols : List (Int)

def g : Sg gX where
  vs := [.agg [.it .u8, .arr (.int .u32)]]
  h := []
  to := fun a b => ⟨a.1.1, a.1.2.1⟩
  fa := fun x => ((x.outs, (x.cols, ())), ())
  fh := fun x => ()
abbrev fY := Int × List (Int)
def f : Ft fY where
  ord := none
  sh := .agg [.it .i64, .arr (.int .u64)]
  h := []
  to := fun a b => (a.1, a.2.1)
  fv := fun y => (y.1, (y.2, ()))
  fh := fun y => ()
def cl : List (FuncId × Con) := []
theorem cl_ok : allCon Try.prog cl := trivial
def E1 : Env := ⟨ty, cfOf cl, fun _ => none⟩
structure p0X where
  i : Int
  outs0 : Int
  cols0 : List (Int)
  outs : Int
  cols_lo : Nat
  cols_len : Nat
  xs : List (Int)

def p0 : Pt p0X where
  own := [.cell 2 1 (.int .u64)]
  t := ⟨[(1, .c (.ptr 0 0)), (2, .c (.ptr 1 0)), (3, .c (.ptr 2 0)), (4, .c (.it .i64))], [.st [.it .u8, .arr (.int .u32)] 1 0, .st [.junk, .junk] 1 0, .st [.it .i64, .sl 3 0 1] 1 0, .arr (.int .u64) 0]⟩
  to := fun v => ⟨v.1.2.2.2.1, v.2.1.1, v.2.1.2.1, v.2.2.2.1.1, v.2.2.2.1.2.1.1, v.2.2.2.1.2.1.2, v.2.2.2.2.1⟩
  fr := fun x => (((), ((), ((), (x.i, ())))), ((x.outs0, (x.cols0, ())), (((), ((), ())), ((x.outs, ((x.cols_lo, x.cols_len), ())), (x.xs, ())))))
structure q0X where
  outs0 : Int
  cols0 : List (Int)
  outs : Int
  cols_lo : Nat
  cols_len : Nat
  xs : List (Int)

def q0 : Pt q0X where
  own := []
  t := ⟨[(2, .c (.ptr 1 0)), (3, .c (.ptr 2 0))], [.st [.it .u8, .arr (.int .u32)] 1 0, .st [.junk, .junk] 1 0, .st [.it .i64, .sl 3 0 1] 1 0, .arr (.int .u64) 0]⟩
  to := fun v => ⟨v.2.1.1, v.2.1.2.1, v.2.2.2.1.1, v.2.2.2.1.2.1.1, v.2.2.2.1.2.1.2, v.2.2.2.2.1⟩
  fr := fun x => (((), ((), ())), ((x.outs0, (x.cols0, ())), (((), ((), ())), ((x.outs, ((x.cols_lo, x.cols_len), ())), (x.xs, ())))))
def s0 (x : p0X) : Option (p0X ⊕ q0X) :=
  bif decide (x.i < (↑x.cols0.length : Int)) then
  bif inR x.i x.cols0.length then
    bif decide (0 ≤ x.outs) then
      bif nz (IntKind.u64.wrap (1 * 2 ^ min x.outs.toNat 64)) then
        bif eqN x.cols_lo 0 && eqN x.xs.length x.cols_len && roomB (x.cols_len + 1) 8 then
          some
            (Sum.inl
              { i := IntKind.i64.wrap (x.i + 1), outs0 := x.outs0, cols0 := x.cols0, outs := x.outs, cols_lo := 0, cols_len := x.cols_len + 1,
                xs := x.xs ++ [(IntKind.u64.wrap (x.cols0[x.i.toNat]?.getD 0)).tmod (IntKind.u64.wrap (1 * 2 ^ min x.outs.toNat 64))] })
        else none
      else none
    else none
  else none
else some (Sum.inr { outs0 := x.outs0, cols0 := x.cols0, outs := x.outs, cols_lo := x.cols_lo, cols_len := x.cols_len, xs := x.xs })
theorem s0_eq (x : p0X) : exec E1 33 (C10.bodyAt 0) 1 (p0.R x) (p0.H x) (roundK 0 p0 (.exit 0) q0) = s0 x := by kernel_rfl
noncomputable def l0 : LoopS := mkLoop 0 p0 (.exit 0) q0 s0
theorem t0 : topL (C10.bodyAt 0) 1 = [] := by kernel_rfl
theorem l0_ok : LoopOkS Try.prog 33 none 0 (C10.bodyAt 0) l0 := mkLoop_ok mixed (env_ok ty_ok cl_ok _) (by trivial) (fun _ => rfl) (fun _ => rfl) (t0 ▸ (AllL.nil)) s0_eq
noncomputable def E0 : Env := ⟨ty, cfOf cl, lpOf [(0, l0)]⟩
noncomputable def m (x : gX) : Option fY :=
  bindO (iter s0 { i := 0, outs0 := x.outs, cols0 := x.cols, outs := IntKind.i64.wrap (x.outs.tmod 17), cols_lo := 0, cols_len := 0, xs := [] }) fun y =>
  bif leB (y.cols_lo + y.cols_len) y.xs.length && true && true && true then some (y.outs, List.take y.cols_len (List.drop y.cols_lo y.xs)) else none
theorem m_eq (x : gX) : exec E0 33 C10 0 (initS 0 (g.A x)) (g.H x) (finish 0 ty [.cell 2 32] f) = m x := by kernel_rfl
theorem tl : topL C10 0 = [(0, C10.bodyAt 0)] := by kernel_rfl
theorem known : Known Try.prog 10 g f m :=
  mk_known mixed (env_ok ty_ok cl_ok _) s10 rfl rfl tl (AllL.cons rfl l0_ok AllL.nil) (fun _ _ => ⟨rfl, rfl⟩) (fun _ _ => ⟨rfl, rfl⟩) m_eq
noncomputable def con : Con := conT g f m default
theorem con_ok : ConOk Try.prog 10 con := conT_ok known (fun _ => rfl) rfl
end F10
namespace F11
structure gX where
  l : List (Int)
  n : Int

def g : Sg gX where
  vs := [.c (.arr (.int .u8)), .c (.it .i64)]
  h := []
  to := fun a b => ⟨a.1, a.2.1⟩
  fa := fun x => (x.l, (x.n, ()))
  fh := fun x => ()
abbrev fY := List (Int)
def f : Ft fY where
  ord := none
  sh := .c (.arr (.int .u8))
  h := []
  to := fun a b => (a)
  fv := fun y => y
  fh := fun y => ()
def cl : List (FuncId × Con) := []
theorem cl_ok : allCon Try.prog cl := trivial
def E1 : Env := ⟨ty, cfOf cl, fun _ => none⟩
structure p0X where
  l : List (Int)
  n : Int
  out_lo : Nat
  out_len : Nat
  out_cap : Nat
  i : Int
  xs : List (Int)

def p0 : Pt p0X where
  own := []
  t := ⟨[(0, .c (.arr (.int .u8))), (1, .c (.it .i64)), (5, .c (.slc 0 0 1)), (6, .c (.it .i64))], [.arr (.int .u8) 0]⟩
  to := fun v => ⟨v.1.1, v.1.2.1, v.1.2.2.1.1, v.1.2.2.1.2.1, v.1.2.2.1.2.2, v.1.2.2.2.1, v.2.1⟩
  fr := fun x => ((x.l, (x.n, ((x.out_lo, x.out_len, x.out_cap), (x.i, ())))), (x.xs, ()))
structure q0X where
  out_lo : Nat
  out_len : Nat
  out_cap : Nat
  xs : List (Int)

def q0 : Pt q0X where
  own := []
  t := ⟨[(5, .c (.slc 0 0 1))], [.arr (.int .u8) 0]⟩
  to := fun v => ⟨v.1.1.1, v.1.1.2.1, v.1.1.2.2, v.2.1⟩
  fr := fun x => (((x.out_lo, x.out_len, x.out_cap), ()), (x.xs, ()))
def s0 (x : p0X) : Option (p0X ⊕ q0X) :=
  bif bif decide (x.i < x.n) then decide (x.i < (↑x.l.length : Int)) else false then
  bif inR x.i x.l.length then
    bif inR x.i x.out_len then
      bif decide (x.out_lo + x.i.toNat < x.xs.length) then
        some
          (Sum.inl
            { l := x.l, n := x.n, out_lo := x.out_lo, out_len := x.out_len, out_cap := x.out_cap, i := IntKind.i64.wrap (x.i + 1),
              xs := x.xs.set (x.out_lo + x.i.toNat) (Int.tmod (x.l[x.i.toNat]?.getD 0) 3) })
      else none
    else none
  else none
else some (Sum.inr { out_lo := x.out_lo, out_len := x.out_len, out_cap := x.out_cap, xs := x.xs })
theorem s0_eq (x : p0X) : exec E1 29 (C11.bodyAt 0) 1 (p0.R x) (p0.H x) (roundK 0 p0 (.exit 0) q0) = s0 x := by kernel_rfl
noncomputable def l0 : LoopS := mkLoop 0 p0 (.exit 0) q0 s0
theorem t0 : topL (C11.bodyAt 0) 1 = [] := by kernel_rfl
theorem l0_ok : LoopOkS Try.prog 29 none 0 (C11.bodyAt 0) l0 := mkLoop_ok mixed (env_ok ty_ok cl_ok _) (by trivial) (fun _ => rfl) (fun _ => rfl) (t0 ▸ (AllL.nil)) s0_eq
noncomputable def E0 : Env := ⟨ty, cfOf cl, lpOf [(0, l0)]⟩
noncomputable def m (x : gX) : Option fY :=
  bif decide (0 ≤ x.n) && decide (x.n ≤ x.n) && decide (x.n * (↑1 : Int) ≤ 281474976710656) && decide (x.n ≤ 9223372036854775807) then
  bindO (iter s0 { l := x.l, n := x.n, out_lo := 0, out_len := x.n.toNat, out_cap := x.n.toNat, i := 0, xs := List.replicate x.n.toNat 0 }) fun y =>
    bif leB (y.out_lo + y.out_len) y.xs.length && true && true then some (List.take y.out_len (List.drop y.out_lo y.xs)) else none
else none
theorem m_eq (x : gX) : exec E0 29 C11 0 (initS 0 (g.A x)) (g.H x) (finish 0 ty [.tmp 4] f) = m x := by kernel_rfl
theorem tl : topL C11 0 = [(0, C11.bodyAt 0)] := by kernel_rfl
theorem known : Known Try.prog 11 g f m :=
  mk_known mixed (env_ok ty_ok cl_ok _) s11 rfl rfl tl (AllL.cons rfl l0_ok AllL.nil) (fun _ _ => ⟨rfl, rfl⟩) (fun _ _ => ⟨rfl, rfl⟩) m_eq
noncomputable def con : Con := conT g f m default
theorem con_ok : ConOk Try.prog 11 con := conT_ok known (fun _ => rfl) rfl
end F11
namespace F16
structure gX where
  outs : Int
  cols : List (Int)
  i : Int
  o : Int

def g : Sg gX where
  vs := [.agg [.it .i64, .arr (.int .u64)], .c (.it .i64), .c (.it .i64)]
  h := []
  to := fun a b => ⟨a.1.1, a.1.2.1, a.2.1, a.2.2.1⟩
  fa := fun x => ((x.outs, (x.cols, ())), (x.i, (x.o, ())))
  fh := fun x => ()
abbrev fY := Bool
def f : Ft fY where
  ord := none
  sh := .c (.bo)
  h := []
  to := fun a b => (a)
  fv := fun y => y
  fh := fun y => ()
def cl : List (FuncId × Con) := []
theorem cl_ok : allCon Try.prog cl := trivial
def E0 : Env := ⟨ty, cfOf cl, fun _ => none⟩
def m (x : gX) : Option fY :=
  bif inR x.i x.cols.length then bif decide (0 ≤ x.o) then some ((Int.fdiv (x.cols[x.i.toNat]?.getD 0) (2 ^ min x.o.toNat 64)).tmod 2 == 1) else none else none
theorem m_eq (x : gX) : exec E0 16 C16 0 (initS 0 (g.A x)) (g.H x) (finish 0 ty [.tmp 6] f) = m x := by kernel_rfl
theorem tl : topL C16 0 = [] := by kernel_rfl
theorem known : Known Try.prog 16 g f m :=
  mk_known mixed (env_ok ty_ok cl_ok _) s16 rfl rfl tl AllL.nil (fun _ _ => ⟨rfl, rfl⟩) (fun _ _ => ⟨rfl, rfl⟩) m_eq
def con : Con := conT g f m default
theorem con_ok : ConOk Try.prog 16 con := conT_ok known (fun _ => rfl) rfl
end F16
namespace F15
structure gX where
  outs : Int
  cols : List (Int)
  l : List (Int)
  mask : Int
  o : Int

def g : Sg gX where
  vs := [.agg [.it .i64, .arr (.int .u64)], .c (.arr (.int .u8)), .c (.it .u64), .c (.it .i64)]
  h := []
  to := fun a b => ⟨a.1.1, a.1.2.1, a.2.1, a.2.2.1, a.2.2.2.1⟩
  fa := fun x => ((x.outs, (x.cols, ())), (x.l, (x.mask, (x.o, ()))))
  fh := fun x => ()
abbrev fY := Int
def f : Ft fY where
  ord := none
  sh := .c (.it .u8)
  h := []
  to := fun a b => (a)
  fv := fun y => y
  fh := fun y => ()
def cl : List (FuncId × Con) := [(16, F16.con)]
theorem cl_ok : allCon Try.prog cl := ⟨F16.con_ok, trivial⟩
def E1 : Env := ⟨ty, cfOf cl, fun _ => none⟩
structure p0X where
  l : List (Int)
  mask : Int
  o : Int
  out : Int
  i : Int
  outs : Int
  cols : List (Int)

def p0 : Pt p0X where
  own := []
  t := ⟨[(1, .c (.arr (.int .u8))), (2, .c (.it .u64)), (3, .c (.it .i64)), (4, .c (.ptr 0 0)), (9, .c (.it .u8)), (10, .c (.it .i64))], [.st [.it .i64, .arr (.int .u64)] 1 0]⟩
  to := fun v => ⟨v.1.1, v.1.2.1, v.1.2.2.1, v.1.2.2.2.2.1, v.1.2.2.2.2.2.1, v.2.1.1, v.2.1.2.1⟩
  fr := fun x => ((x.l, (x.mask, (x.o, ((), (x.out, (x.i, ())))))), ((x.outs, (x.cols, ())), ()))
structure q0X where
  out : Int

def q0 : Pt q0X where
  own := []
  t := ⟨[(9, .c (.it .u8))], []⟩
  to := fun v => ⟨v.1.1⟩
  fr := fun x => ((x.out, ()), ())
structure z0X where
  r : Int

def z0 : Pt z0X where
  own := []
  t := ⟨[(8, .c (.it .u8))], []⟩
  to := fun v => ⟨v.1.1⟩
  fr := fun x => ((x.r, ()), ())
def s0 (x : p0X) : Option (p0X ⊕ (q0X ⊕ z0X)) :=
  bif decide (x.i < (↑x.l.length : Int)) then
  bif decide (0 ≤ x.i) then
    bindO (bif !(x.mask.fdiv (2 ^ min x.i.toNat 64)).tmod 2 == 1 then F16.m { outs := x.outs, cols := x.cols, i := x.i, o := x.o } else some false) fun y =>
      bif bif (x.mask.fdiv (2 ^ min x.i.toNat 64)).tmod 2 == 1 then true else !y then
        some (Sum.inl { l := x.l, mask := x.mask, o := x.o, out := x.out, i := IntKind.i64.wrap (x.i + 1), outs := x.outs, cols := x.cols })
      else
        bif inR x.i x.l.length then
          bif x.l[x.i.toNat]?.getD 0 == 2 then some (Sum.inr (Sum.inr { r := 2 }))
          else
            bif inR x.i x.l.length then
              some
                (Sum.inl
                  { l := x.l, mask := x.mask, o := x.o, out := bif x.l[x.i.toNat]?.getD 0 == 1 then IntKind.u8.wrap (1 - x.out) else x.out, i := IntKind.i64.wrap (x.i + 1),
                    outs := x.outs, cols := x.cols })
            else none
        else none
  else none
else some (Sum.inr (Sum.inl { out := x.out }))
theorem s0_eq (x : p0X) : exec E1 42 (C15.bodyAt 0) 1 (p0.R x) (p0.H x) (roundK2 0 p0 (.exit 0) q0 .ret z0) = s0 x := by kernel_rfl
noncomputable def l0 : LoopS := mkLoop2 0 p0 (.exit 0) q0 .ret z0 s0
theorem t0 : topL (C15.bodyAt 0) 1 = [] := by kernel_rfl
theorem l0_ok : LoopOkS Try.prog 42 none 0 (C15.bodyAt 0) l0 := mkLoop2_ok mixed (env_ok ty_ok cl_ok _) (by trivial) (by trivial) (fun _ => rfl) (fun _ => rfl) (fun _ => rfl) (t0 ▸ (AllL.nil)) s0_eq
noncomputable def E0 : Env := ⟨ty, cfOf cl, lpOf [(0, l0)]⟩
noncomputable def m (x : gX) : Option fY :=
  bindO (iter s0 { l := x.l, mask := x.mask, o := x.o, out := 0, i := 0, outs := x.outs, cols := x.cols }) fun s => sumC s (fun y => some y.out) fun z => some z.r
theorem m_eq (x : gX) : exec E0 42 C15 0 (initS 0 (g.A x)) (g.H x) (finish 0 ty [.tmp 8] f) = m x := by kernel_rfl
theorem tl : topL C15 0 = [(0, C15.bodyAt 0)] := by kernel_rfl
theorem known : Known Try.prog 15 g f m :=
  mk_known mixed (env_ok ty_ok cl_ok _) s15 rfl rfl tl (AllL.cons rfl l0_ok AllL.nil) (fun _ _ => ⟨rfl, rfl⟩) (fun _ _ => ⟨rfl, rfl⟩) m_eq
noncomputable def con : Con := conT g f m default
theorem con_ok : ConOk Try.prog 15 con := conT_ok known (fun _ => rfl) rfl
end F15
namespace F17
structure gX where
  outs : Int
  cols : List (Int)
  chain : Int
  unknown : Int

def g : Sg gX where
  vs := [.agg [.it .i64, .arr (.int .u64)], .c (.it .i64), .c (.it .u64)]
  h := []
  to := fun a b => ⟨a.1.1, a.1.2.1, a.2.1, a.2.2.1⟩
  fa := fun x => ((x.outs, (x.cols, ())), (x.chain, (x.unknown, ())))
  fh := fun x => ()
abbrev fY := Bool × Int
def f : Ft fY where
  ord := none
  sh := .tup [.inl (.bo), .inl (.it .i64)]
  h := []
  to := fun a b => (a.1, a.2.1)
  fv := fun y => (y.1, (y.2, ()))
  fh := fun y => ()
noncomputable def cl : List (FuncId × Con) := [(26, F26.con), (27, F27.con), (28, F28.con)]
theorem cl_ok : allCon Try.prog cl := ⟨F26.con_ok, F27.con_ok, F28.con_ok, trivial⟩
noncomputable def E1 : Env := ⟨ty, cfOf cl, fun _ => none⟩
structure p0X where
  unknown : Int
  free : Int
  s : List (Int)
  n : Int
  i : Int

def p0 : Pt p0X where
  own := []
  t := ⟨[(2, .c (.it .u64)), (9, .c (.it .u64)), (39, .c (.arr (.int .u64))), (40, .c (.it .i64)), (41, .c (.it .i64))], []⟩
  to := fun v => ⟨v.1.1, v.1.2.1, v.1.2.2.1, v.1.2.2.2.1, v.1.2.2.2.2.1⟩
  fr := fun x => ((x.unknown, (x.free, (x.s, (x.n, (x.i, ()))))), ())
structure q0X where
  free : Int

def q0 : Pt q0X where
  own := []
  t := ⟨[(9, .c (.it .u64))], []⟩
  to := fun v => ⟨v.1.1⟩
  fr := fun x => ((x.free, ()), ())
noncomputable def s0 (x : p0X) : Option (p0X ⊕ q0X) :=
  bif decide (x.i < x.n) then
  bif inR x.i x.s.length then
    bindO (F28.m { x := x.unknown, i := x.i }) fun y =>
      some
        (Sum.inl
          { unknown := x.unknown, free := bif y then IntKind.u64.wrap (↑(BitVec.ofInt 64 x.free &&& ~~~BitVec.ofInt 64 (x.s[x.i.toNat]?.getD 0)).toNat : Int) else x.free, s := x.s,
            n := x.n, i := IntKind.i64.wrap (x.i + 1) })
  else none
else some (Sum.inr { free := x.free })
theorem s0_eq (x : p0X) : exec E1 55 (C17.bodyAt 0) 1 (p0.R x) (p0.H x) (roundK 0 p0 (.exit 0) q0) = s0 x := by kernel_rfl
noncomputable def l0 : LoopS := mkLoop 0 p0 (.exit 0) q0 s0
theorem t0 : topL (C17.bodyAt 0) 1 = [] := by kernel_rfl
theorem l0_ok : LoopOkS Try.prog 55 none 0 (C17.bodyAt 0) l0 := mkLoop_ok mixed (env_ok ty_ok cl_ok _) (by trivial) (fun _ => rfl) (fun _ => rfl) (t0 ▸ (AllL.nil)) s0_eq
noncomputable def E0 : Env := ⟨ty, cfOf cl, lpOf [(0, l0)]⟩
noncomputable def m (x : gX) : Option fY :=
  bindO (F26.m { outs := x.outs, cols := x.cols }) fun y =>
  bif y != 0 then some (false, y)
  else
    bindO (bif !bif decide (x.chain < 0) then true else decide (x.chain ≥ (↑x.cols.length : Int)) then F27.m { x := x.unknown, n := (↑x.cols.length : Int) } else some false)
      fun y =>
      bif bif bif decide (x.chain < 0) then true else decide (x.chain ≥ (↑x.cols.length : Int)) then true else y then some (false, 1)
      else
        bif inR x.chain x.cols.length then
          bindO (iter s0 { unknown := x.unknown, free := x.cols[x.chain.toNat]?.getD 0, s := x.cols, n := (↑x.cols.length : Int), i := 0 }) fun y => some (y.free != 0, 0)
        else none
theorem m_eq (x : gX) : exec E0 55 C17 0 (initS 0 (g.A x)) (g.H x) (finish 0 ty [.tmp 6, .tmp 7] f) = m x := by kernel_rfl
theorem tl : topL C17 0 = [(0, C17.bodyAt 0)] := by kernel_rfl
theorem known : Known Try.prog 17 g f m :=
  mk_known mixed (env_ok ty_ok cl_ok _) s17 rfl rfl tl (AllL.cons rfl l0_ok AllL.nil) (fun _ _ => ⟨rfl, rfl⟩) (fun _ _ => ⟨rfl, rfl⟩) m_eq
noncomputable def con : Con := conT g f m default
theorem con_ok : ConOk Try.prog 17 con := conT_ok known (fun _ => rfl) rfl
end F17
end Go.Proofs.Ytfcbahfdgopgfaa
/-
  The examples of the chapter, as a contract.
-/
set_option linter.unusedSimpArgs false
set_option linter.unusedVariables false
namespace Go.Proofs.Ytfcbahfdgopgfaa
open Go.Abs
namespace F9
theorem run_eq : checkR Try.prog tab 200 20 9 [] = some (aB true) := by kernel_rfl
theorem ok0 : FnOk Try.prog 9 [] [] fun u τ => u = aB true ∧ τ = [] := checkR_ok mixed tab_ok run_eq
theorem ok (σ : Heap) : ConstAt Try.prog 9 [] σ [] (aB true) := const_any rfl rfl ok0
def con : Con where
  X := Unit
  Y := Unit
  dec := fun l _ => match l with | [] => some () | _ => none
  run := fun _ => some ()
  inh := ()
  val := fun _ _ _ => .c (.bo true)
  heap := fun _ _ σ => σ
  rd := fun _ => some []
theorem con_ok : ConOk Try.prog 9 con where
  ok := fun l σ x y h _ => by
    cases l with
    | nil => exact (ok _ _ (fun _ _ => agC.refl _ _)).mono fun v τ ⟨e1, e2⟩ => ⟨by rw [e1]; exact WV.rfl', by rw [e2]; exact WH.rfl'⟩
    | cons _ _ => cases h
  rd := fun l σ x y rs h hrs => by
    cases l with
    | nil =>
      refine ⟨rfl, fun _ => ?_⟩
      cases hrs
      exact ok _
    | cons _ _ => cases h
end F9
end Go.Proofs.Ytfcbahfdgopgfaa
/-
  The functions of compactors, run on symbolic values.
-/
set_option linter.unusedSimpArgs false
set_option linter.unusedVariables false
namespace Go.Proofs.Ytfcbahfdgopgfaa
open Go.Abs

set_option maxRecDepth 100000
namespace F3
structure gX where
  outs0 : Int
  cols0 : List (Int)
  good : List (Int)
  bad : List (Int)
  mask : Int

def g : Sg gX where
  vs := [.agg [.it .u8, .arr (.int .u32)], .agg [.arr (.int .u8), .arr (.int .u8), .it .u64]]
  h := []
  to := fun a b => ⟨a.1.1, a.1.2.1, a.2.1.1, a.2.1.2.1, a.2.1.2.2.1⟩
  fa := fun x => ((x.outs0, (x.cols0, ())), ((x.good, (x.bad, (x.mask, ()))), ()))
  fh := fun x => ()
abbrev fY := Bool
def f : Ft fY where
  ord := none
  sh := .c (.bo)
  h := []
  to := fun a b => (a)
  fv := fun y => y
  fh := fun y => ()
noncomputable def cl : List (FuncId × Con) := [(9, F9.con), (10, F10.con), (11, F11.con), (12, F12.con), (13, F13.con), (14, F14.con), (15, F15.con)]
theorem cl_ok : allCon Try.prog cl := ⟨F9.con_ok, F10.con_ok, F11.con_ok, F12.con_ok, F13.con_ok, F14.con_ok, F15.con_ok, trivial⟩
noncomputable def E2 : Env := ⟨ty, cfOf cl, fun _ => none⟩
structure p1X where
  n : Int
  a : List (Int)
  l : List (Int)
  unk : Int
  pos : Int
  c : Int

def p1 : Pt p1X where
  own := []
  t := ⟨[(6, .c (.it .i64)), (7, .c (.arr (.int .u8))), (14, .c (.arr (.int .i64))), (16, .c (.it .u64)), (20, .c (.it .i64)), (24, .c (.it .i64))], []⟩
  to := fun v => ⟨v.1.1, v.1.2.1, v.1.2.2.1, v.1.2.2.2.1, v.1.2.2.2.2.1, v.1.2.2.2.2.2.1⟩
  fr := fun x => ((x.n, (x.a, (x.l, (x.unk, (x.pos, (x.c, ())))))), ())
structure q1X where
  n : Int
  l : List (Int)
  unk : Int
  pos : Int

def q1 : Pt q1X where
  own := []
  t := ⟨[(6, .c (.it .i64)), (14, .c (.arr (.int .i64))), (16, .c (.it .u64)), (20, .c (.it .i64))], []⟩
  to := fun v => ⟨v.1.1, v.1.2.1, v.1.2.2.1, v.1.2.2.2.1⟩
  fr := fun x => ((x.n, (x.l, (x.unk, (x.pos, ())))), ())
structure z1X where
  r : Bool

def z1 : Pt z1X where
  own := []
  t := ⟨[(4, .c (.bo))], []⟩
  to := fun v => ⟨v.1.1⟩
  fr := fun x => ((x.r, ()), ())
noncomputable def s1 (x : p1X) : Option (p1X ⊕ (q1X ⊕ z1X)) :=
  bif decide (x.c < x.n) then
  bif decide (0 ≤ x.c) then
    bif inR x.c x.a.length then
      bif !((x.unk.fdiv (2 ^ min x.c.toNat 64)).tmod 2 == 1) == (x.a[x.c.toNat]?.getD 0 == 2) then some (Sum.inr (Sum.inr { r := false }))
      else some (Sum.inl { n := x.n, a := x.a, l := x.l, unk := x.unk, pos := x.pos, c := IntKind.i64.wrap (x.c + 1) })
    else none
  else none
else some (Sum.inr (Sum.inl { n := x.n, l := x.l, unk := x.unk, pos := x.pos }))
theorem s1_eq (x : p1X) : exec E2 212 (C3.bodyAt 1) 2 (p1.R x) (p1.H x) (roundK2 0 p1 (.exit 2) q1 .ret z1) = s1 x := by kernel_rfl
noncomputable def l1 : LoopS := mkLoop2 0 p1 (.exit 2) q1 .ret z1 s1
theorem t1 : topL (C3.bodyAt 1) 2 = [] := by kernel_rfl
theorem l1_ok : LoopOkS Try.prog 212 none 0 (C3.bodyAt 1) l1 := mkLoop2_ok mixed (env_ok ty_ok cl_ok _) (by trivial) (by trivial) (fun _ => rfl) (fun _ => rfl) (fun _ => rfl) (t1 ▸ (AllL.nil)) s1_eq
noncomputable def E1 : Env := ⟨ty, cfOf cl, lpOf [(1, l1)]⟩
structure p0X where
  n : Int
  a : List (Int)
  b : List (Int)
  mask : Int
  p : List (Int)
  q : List (Int)
  l : List (Int)
  unk : Int
  al : List (Int)
  pos : Int
  o : Int
  outs : Int
  cols : List (Int)

def p0 : Pt p0X where
  own := []
  t := ⟨[(5, .c (.ptr 2 0)), (6, .c (.it .i64)), (7, .c (.arr (.int .u8))), (8, .c (.arr (.int .u8))), (9, .c (.it .u64)), (10, .c (.arr (.int .u8))), (12, .c (.arr (.int .u8))), (14, .c (.arr (.int .i64))), (16, .c (.it .u64)), (18, .c (.arr (.int .u8))), (20, .c (.it .i64)), (21, .c (.it .i64))], [.st [.junk, .junk] 1 0, .st [.junk, .junk, .junk] 1 0, .st [.it .i64, .arr (.int .u64)] 1 0]⟩
  to := fun v => ⟨v.1.2.1, v.1.2.2.1, v.1.2.2.2.1, v.1.2.2.2.2.1, v.1.2.2.2.2.2.1, v.1.2.2.2.2.2.2.1, v.1.2.2.2.2.2.2.2.1, v.1.2.2.2.2.2.2.2.2.1, v.1.2.2.2.2.2.2.2.2.2.1, v.1.2.2.2.2.2.2.2.2.2.2.1, v.1.2.2.2.2.2.2.2.2.2.2.2.1, v.2.2.2.1.1, v.2.2.2.1.2.1⟩
  fr := fun x => (((), (x.n, (x.a, (x.b, (x.mask, (x.p, (x.q, (x.l, (x.unk, (x.al, (x.pos, (x.o, ())))))))))))), (((), ((), ())), (((), ((), ((), ()))), ((x.outs, (x.cols, ())), ()))))
structure q0X where
  n : Int
  a : List (Int)
  l : List (Int)
  unk : Int
  pos : Int

def q0 : Pt q0X where
  own := []
  t := ⟨[(6, .c (.it .i64)), (7, .c (.arr (.int .u8))), (14, .c (.arr (.int .i64))), (16, .c (.it .u64)), (20, .c (.it .i64))], []⟩
  to := fun v => ⟨v.1.1, v.1.2.1, v.1.2.2.1, v.1.2.2.2.1, v.1.2.2.2.2.1⟩
  fr := fun x => ((x.n, (x.a, (x.l, (x.unk, (x.pos, ()))))), ())
structure z0X where
  r : Bool

def z0 : Pt z0X where
  own := []
  t := ⟨[(4, .c (.bo))], []⟩
  to := fun v => ⟨v.1.1⟩
  fr := fun x => ((x.r, ()), ())
noncomputable def s0 (x : p0X) : Option (p0X ⊕ (q0X ⊕ z0X)) :=
  bif decide (x.o < x.outs) then
  bindO (F15.m { outs := x.outs, cols := x.cols, l := x.a, mask := x.mask, o := x.o }) fun y =>
    bindO (F15.m { outs := x.outs, cols := x.cols, l := x.b, mask := x.mask, o := x.o }) fun y_1 =>
      bif inR x.o x.p.length then
        bif inR x.o x.q.length || !!x.p[x.o.toNat]?.getD 0 != y then
          bif inR x.o x.al.length || !!bif x.p[x.o.toNat]?.getD 0 != y then true else x.q[x.o.toNat]?.getD 0 != y_1 then
            bif bif bif x.p[x.o.toNat]?.getD 0 != y then true else x.q[x.o.toNat]?.getD 0 != y_1 then true else x.al[x.o.toNat]?.getD 0 == 2 then
              some (Sum.inr (Sum.inr { r := false }))
            else
              bif bif bif y != 2 then y_1 != 2 else false then y != y_1 else false then
                bif inR x.pos x.l.length || !!decide (x.pos ≥ (↑x.l.length : Int)) then
                  bif bif decide (x.pos ≥ (↑x.l.length : Int)) then true else x.l[x.pos.toNat]?.getD 0 != x.o then some (Sum.inr (Sum.inr { r := false }))
                  else
                    some
                      (Sum.inl
                        { n := x.n, a := x.a, b := x.b, mask := x.mask, p := x.p, q := x.q, l := x.l, unk := x.unk, al := x.al, pos := IntKind.i64.wrap (x.pos + 1),
                          o := IntKind.i64.wrap (x.o + 1), outs := x.outs, cols := x.cols })
                else none
              else
                some
                  (Sum.inl
                    { n := x.n, a := x.a, b := x.b, mask := x.mask, p := x.p, q := x.q, l := x.l, unk := x.unk, al := x.al, pos := x.pos, o := IntKind.i64.wrap (x.o + 1),
                      outs := x.outs, cols := x.cols })
          else none
        else none
      else none
else some (Sum.inr (Sum.inl { n := x.n, a := x.a, l := x.l, unk := x.unk, pos := x.pos }))
theorem s0_eq (x : p0X) : exec E1 212 (C3.bodyAt 0) 1 (p0.R x) (p0.H x) (roundK2 0 p0 (.exit 0) q0 .ret z0) = s0 x := by kernel_rfl
noncomputable def l0 : LoopS := mkLoop2 0 p0 (.exit 0) q0 .ret z0 s0
theorem t0 : topL (C3.bodyAt 0) 1 = [] := by kernel_rfl
theorem l0_ok : LoopOkS Try.prog 212 none 0 (C3.bodyAt 0) l0 := mkLoop2_ok mixed (env_ok ty_ok cl_ok _) (by trivial) (by trivial) (fun _ => rfl) (fun _ => rfl) (fun _ => rfl) (t0 ▸ (AllL.nil)) s0_eq
noncomputable def E0 : Env := ⟨ty, cfOf cl, lpOf [(0, l0), (1, l1)]⟩
noncomputable def m (x : gX) : Option fY :=
  bif decide ((↑x.cols0.length : Int) > 12) then bindO (some PUnit.unit) fun y => some true
else
  bindO (F10.m { outs := x.outs0, cols := x.cols0 }) fun y =>
    bindO (F11.m { l := x.good, n := (↑y.snd.length : Int) }) fun y_1 =>
      bindO (F11.m { l := x.bad, n := (↑y.snd.length : Int) }) fun y_2 =>
        bif decide (0 ≤ (↑y.snd.length : Int)) then
          bif nz (IntKind.u64.wrap (1 * 2 ^ min (↑y.snd.length : Int).toNat 64)) then
            bindO (F12.m { outs := y.fst, cols := y.snd, s := y_1, mask := x.mask.tmod (IntKind.u64.wrap (1 * 2 ^ min (↑y.snd.length : Int).toNat 64)) }) fun y_3 =>
              bindO (F12.m { outs := y.fst, cols := y.snd, s := y_2, mask := x.mask.tmod (IntKind.u64.wrap (1 * 2 ^ min (↑y.snd.length : Int).toNat 64)) }) fun y_4 =>
                bindO (F13.m { outs := y.fst, cols := y.snd, good := y_1, bad := y_2, mask := x.mask.tmod (IntKind.u64.wrap (1 * 2 ^ min (↑y.snd.length : Int).toNat 64)) })
                  fun y_5 =>
                  bindO (F14.m { s := y_1 }) fun y_6 =>
                    bindO (F12.m { outs := y.fst, cols := y.snd, s := y_1, mask := y_6.fst }) fun y_7 =>
                      bif
                          bif
                              bif
                                  bif
                                      bif bif bif bif y_3.snd != 0 then true else y_4.snd != 0 then true else y_5.snd != 0 then true else y_6.snd != 0 then true
                                      else y_7.snd != 0 then
                                    true
                                  else (↑y_3.fst.length : Int) != y.fst then
                                true
                              else (↑y_4.fst.length : Int) != y.fst then
                            true
                          else (↑y_7.fst.length : Int) != y.fst then
                        some false
                      else
                        bindO
                          (iter s0
                            { n := (↑y.snd.length : Int), a := y_1, b := y_2, mask := x.mask.tmod (IntKind.u64.wrap (1 * 2 ^ min (↑y.snd.length : Int).toNat 64)), p := y_3.fst,
                              q := y_4.fst, l := y_5.fst, unk := y_6.fst, al := y_7.fst, pos := 0, o := 0, outs := y.fst, cols := y.snd })
                          fun s =>
                          sumC s
                            (fun y =>
                              bindO (iter s1 { n := y.n, a := y.a, l := y.l, unk := y.unk, pos := y.pos, c := 0 }) fun s =>
                                sumC s
                                  (fun y =>
                                    bif decide (0 ≤ y.n) || !y.pos == (↑y.l.length : Int) then
                                      bindO (bif bif y.pos == (↑y.l.length : Int) then y.unk.fdiv (2 ^ min y.n.toNat 64) == 0 else false then some PUnit.unit else some PUnit.unit)
                                        fun y_8 => some (bif bif y.pos == (↑y.l.length : Int) then y.unk.fdiv (2 ^ min y.n.toNat 64) == 0 else false then true else false)
                                    else none)
                                  fun z => some z.r)
                            fun z => some z.r
          else none
        else none
theorem m_eq (x : gX) : exec E0 212 C3 0 (initS 0 (g.A x)) (g.H x) (finish 0 ty [.tmp 4] f) = m x := by kernel_rfl
theorem tl : topL C3 0 = [(0, C3.bodyAt 0), (1, C3.bodyAt 1)] := by kernel_rfl
theorem known : Known Try.prog 3 g f m :=
  mk_known mixed (env_ok ty_ok cl_ok _) s3 rfl rfl tl (AllL.cons rfl l0_ok (AllL.cons rfl l1_ok AllL.nil)) (fun _ _ => ⟨rfl, rfl⟩) (fun _ _ => ⟨rfl, rfl⟩) m_eq
noncomputable def con : Con := conT g f m default
theorem con_ok : ConOk Try.prog 3 con := conT_ok known (fun _ => rfl) rfl
end F3
end Go.Proofs.Ytfcbahfdgopgfaa
/-
  The functions of compactors, run on symbolic values.
-/
set_option linter.unusedSimpArgs false
set_option linter.unusedVariables false
namespace Go.Proofs.Ytfcbahfdgopgfaa
open Go.Abs

set_option maxRecDepth 100000
namespace F5
structure gX where
  outs0 : Int
  cols0 : List (Int)
  good : List (Int)
  bad : List (Int)
  mask : Int

def g : Sg gX where
  vs := [.agg [.it .u8, .arr (.int .u32)], .agg [.arr (.int .u8), .arr (.int .u8), .it .u64]]
  h := []
  to := fun a b => ⟨a.1.1, a.1.2.1, a.2.1.1, a.2.1.2.1, a.2.1.2.2.1⟩
  fa := fun x => ((x.outs0, (x.cols0, ())), ((x.good, (x.bad, (x.mask, ()))), ()))
  fh := fun x => ()
abbrev fY := Bool
def f : Ft fY where
  ord := none
  sh := .c (.bo)
  h := []
  to := fun a b => (a)
  fv := fun y => y
  fh := fun y => ()
noncomputable def cl : List (FuncId × Con) := [(9, F9.con), (10, F10.con), (13, F13.con), (16, F16.con)]
theorem cl_ok : allCon Try.prog cl := ⟨F9.con_ok, F10.con_ok, F13.con_ok, F16.con_ok, trivial⟩
noncomputable def E3 : Env := ⟨ty, cfOf cl, fun _ => none⟩
structure p2X where
  n : Int
  a_lo : Nat
  a_len : Nat
  a_cap : Nat
  b_lo : Nat
  b_len : Nat
  b_cap : Nat
  many : Int
  diff : Bool
  odd : Bool
  i : Int
  bits : Int
  o : Int
  good : List (Int)
  bad : List (Int)
  mask : Int
  outs : Int
  cols : List (Int)
  xa : List (Int)
  xb : List (Int)

def p2 : Pt p2X where
  own := []
  t := ⟨[(3, .c (.ptr 1 0)), (5, .c (.ptr 2 0)), (6, .c (.it .i64)), (7, .c (.slc 3 0 1)), (8, .c (.slc 4 0 1)), (9, .c (.it .i64)), (10, .c (.bo)), (11, .c (.bo)), (12, .c (.it .i64)), (14, .c (.it .i64)), (15, .c (.it .i64))], [.st [.junk, .junk] 1 0, .st [.arr (.int .u8), .arr (.int .u8), .it .u64] 1 0, .st [.it .i64, .arr (.int .u64)] 1 0, .arr (.int .u8) 0, .arr (.int .u8) 0]⟩
  to := fun v => ⟨v.1.2.2.1, v.1.2.2.2.1.1, v.1.2.2.2.1.2.1, v.1.2.2.2.1.2.2, v.1.2.2.2.2.1.1, v.1.2.2.2.2.1.2.1, v.1.2.2.2.2.1.2.2, v.1.2.2.2.2.2.1, v.1.2.2.2.2.2.2.1, v.1.2.2.2.2.2.2.2.1, v.1.2.2.2.2.2.2.2.2.1, v.1.2.2.2.2.2.2.2.2.2.1, v.1.2.2.2.2.2.2.2.2.2.2.1, v.2.2.1.1, v.2.2.1.2.1, v.2.2.1.2.2.1, v.2.2.2.1.1, v.2.2.2.1.2.1, v.2.2.2.2.1, v.2.2.2.2.2.1⟩
  fr := fun x => (((), ((), (x.n, ((x.a_lo, x.a_len, x.a_cap), ((x.b_lo, x.b_len, x.b_cap), (x.many, (x.diff, (x.odd, (x.i, (x.bits, (x.o, ()))))))))))), (((), ((), ())), ((x.good, (x.bad, (x.mask, ()))), ((x.outs, (x.cols, ())), (x.xa, (x.xb, ()))))))
structure q2X where
  n : Int
  a_lo : Nat
  a_len : Nat
  a_cap : Nat
  b_lo : Nat
  b_len : Nat
  b_cap : Nat
  many : Int
  diff : Bool
  odd : Bool
  i : Int
  bits : Int
  good : List (Int)
  bad : List (Int)
  mask : Int
  outs : Int
  cols : List (Int)
  xa : List (Int)
  xb : List (Int)

def q2 : Pt q2X where
  own := []
  t := ⟨[(3, .c (.ptr 1 0)), (5, .c (.ptr 2 0)), (6, .c (.it .i64)), (7, .c (.slc 3 0 1)), (8, .c (.slc 4 0 1)), (9, .c (.it .i64)), (10, .c (.bo)), (11, .c (.bo)), (12, .c (.it .i64)), (14, .c (.it .i64))], [.st [.junk, .junk] 1 0, .st [.arr (.int .u8), .arr (.int .u8), .it .u64] 1 0, .st [.it .i64, .arr (.int .u64)] 1 0, .arr (.int .u8) 0, .arr (.int .u8) 0]⟩
  to := fun v => ⟨v.1.2.2.1, v.1.2.2.2.1.1, v.1.2.2.2.1.2.1, v.1.2.2.2.1.2.2, v.1.2.2.2.2.1.1, v.1.2.2.2.2.1.2.1, v.1.2.2.2.2.1.2.2, v.1.2.2.2.2.2.1, v.1.2.2.2.2.2.2.1, v.1.2.2.2.2.2.2.2.1, v.1.2.2.2.2.2.2.2.2.1, v.1.2.2.2.2.2.2.2.2.2.1, v.2.2.1.1, v.2.2.1.2.1, v.2.2.1.2.2.1, v.2.2.2.1.1, v.2.2.2.1.2.1, v.2.2.2.2.1, v.2.2.2.2.2.1⟩
  fr := fun x => (((), ((), (x.n, ((x.a_lo, x.a_len, x.a_cap), ((x.b_lo, x.b_len, x.b_cap), (x.many, (x.diff, (x.odd, (x.i, (x.bits, ())))))))))), (((), ((), ())), ((x.good, (x.bad, (x.mask, ()))), ((x.outs, (x.cols, ())), (x.xa, (x.xb, ()))))))
noncomputable def s2 (x : p2X) : Option (p2X ⊕ q2X) :=
  bif decide (x.o < x.outs) then
  bindO (F16.m { outs := x.outs, cols := x.cols, i := x.i, o := x.o }) fun y =>
    some
      (Sum.inl
        { n := x.n, a_lo := x.a_lo, a_len := x.a_len, a_cap := x.a_cap, b_lo := x.b_lo, b_len := x.b_len, b_cap := x.b_cap, many := x.many, diff := x.diff, odd := x.odd, i := x.i,
          bits := bif y then IntKind.i64.wrap (x.bits + 1) else x.bits, o := IntKind.i64.wrap (x.o + 1), good := x.good, bad := x.bad, mask := x.mask, outs := x.outs,
          cols := x.cols, xa := x.xa, xb := x.xb })
else
  some
    (Sum.inr
      { n := x.n, a_lo := x.a_lo, a_len := x.a_len, a_cap := x.a_cap, b_lo := x.b_lo, b_len := x.b_len, b_cap := x.b_cap, many := x.many, diff := x.diff, odd := x.odd, i := x.i,
        bits := x.bits, good := x.good, bad := x.bad, mask := x.mask, outs := x.outs, cols := x.cols, xa := x.xa, xb := x.xb })
theorem s2_eq (x : p2X) : exec E3 174 (C5.bodyAt 2) 3 (p2.R x) (p2.H x) (roundK 0 p2 (.exit 4) q2) = s2 x := by kernel_rfl
noncomputable def l2 : LoopS := mkLoop 0 p2 (.exit 4) q2 s2
theorem t2 : topL (C5.bodyAt 2) 3 = [] := by kernel_rfl
theorem l2_ok : LoopOkS Try.prog 174 none 0 (C5.bodyAt 2) l2 := mkLoop_ok mixed (env_ok ty_ok cl_ok _) (by trivial) (fun _ => rfl) (fun _ => rfl) (t2 ▸ (AllL.nil)) s2_eq
noncomputable def E2 : Env := ⟨ty, cfOf cl, lpOf [(2, l2)]⟩
structure p1X where
  n : Int
  a_lo : Nat
  a_len : Nat
  a_cap : Nat
  b_lo : Nat
  b_len : Nat
  b_cap : Nat
  many : Int
  diff : Bool
  odd : Bool
  i : Int
  j : Int
  good : List (Int)
  bad : List (Int)
  mask : Int
  outs : Int
  cols : List (Int)
  xa : List (Int)
  xb : List (Int)

def p1 : Pt p1X where
  own := []
  t := ⟨[(3, .c (.ptr 1 0)), (5, .c (.ptr 2 0)), (6, .c (.it .i64)), (7, .c (.slc 3 0 1)), (8, .c (.slc 4 0 1)), (9, .c (.it .i64)), (10, .c (.bo)), (11, .c (.bo)), (12, .c (.it .i64)), (13, .c (.it .i64))], [.st [.junk, .junk] 1 0, .st [.arr (.int .u8), .arr (.int .u8), .it .u64] 1 0, .st [.it .i64, .arr (.int .u64)] 1 0, .arr (.int .u8) 0, .arr (.int .u8) 0]⟩
  to := fun v => ⟨v.1.2.2.1, v.1.2.2.2.1.1, v.1.2.2.2.1.2.1, v.1.2.2.2.1.2.2, v.1.2.2.2.2.1.1, v.1.2.2.2.2.1.2.1, v.1.2.2.2.2.1.2.2, v.1.2.2.2.2.2.1, v.1.2.2.2.2.2.2.1, v.1.2.2.2.2.2.2.2.1, v.1.2.2.2.2.2.2.2.2.1, v.1.2.2.2.2.2.2.2.2.2.1, v.2.2.1.1, v.2.2.1.2.1, v.2.2.1.2.2.1, v.2.2.2.1.1, v.2.2.2.1.2.1, v.2.2.2.2.1, v.2.2.2.2.2.1⟩
  fr := fun x => (((), ((), (x.n, ((x.a_lo, x.a_len, x.a_cap), ((x.b_lo, x.b_len, x.b_cap), (x.many, (x.diff, (x.odd, (x.i, (x.j, ())))))))))), (((), ((), ())), ((x.good, (x.bad, (x.mask, ()))), ((x.outs, (x.cols, ())), (x.xa, (x.xb, ()))))))
structure q1X where
  n : Int
  a_lo : Nat
  a_len : Nat
  a_cap : Nat
  b_lo : Nat
  b_len : Nat
  b_cap : Nat
  many : Int
  diff : Bool
  odd : Bool
  i : Int
  good : List (Int)
  bad : List (Int)
  mask : Int
  outs : Int
  cols : List (Int)
  xa : List (Int)
  xb : List (Int)

def q1 : Pt q1X where
  own := []
  t := ⟨[(3, .c (.ptr 1 0)), (5, .c (.ptr 2 0)), (6, .c (.it .i64)), (7, .c (.slc 3 0 1)), (8, .c (.slc 4 0 1)), (9, .c (.it .i64)), (10, .c (.bo)), (11, .c (.bo)), (12, .c (.it .i64))], [.st [.junk, .junk] 1 0, .st [.arr (.int .u8), .arr (.int .u8), .it .u64] 1 0, .st [.it .i64, .arr (.int .u64)] 1 0, .arr (.int .u8) 0, .arr (.int .u8) 0]⟩
  to := fun v => ⟨v.1.2.2.1, v.1.2.2.2.1.1, v.1.2.2.2.1.2.1, v.1.2.2.2.1.2.2, v.1.2.2.2.2.1.1, v.1.2.2.2.2.1.2.1, v.1.2.2.2.2.1.2.2, v.1.2.2.2.2.2.1, v.1.2.2.2.2.2.2.1, v.1.2.2.2.2.2.2.2.1, v.1.2.2.2.2.2.2.2.2.1, v.2.2.1.1, v.2.2.1.2.1, v.2.2.1.2.2.1, v.2.2.2.1.1, v.2.2.2.1.2.1, v.2.2.2.2.1, v.2.2.2.2.2.1⟩
  fr := fun x => (((), ((), (x.n, ((x.a_lo, x.a_len, x.a_cap), ((x.b_lo, x.b_len, x.b_cap), (x.many, (x.diff, (x.odd, (x.i, ()))))))))), (((), ((), ())), ((x.good, (x.bad, (x.mask, ()))), ((x.outs, (x.cols, ())), (x.xa, (x.xb, ()))))))
noncomputable def s1 (x : p1X) : Option (p1X ⊕ q1X) :=
  bif decide (x.j < x.i) then
  bif inR x.i x.cols.length || !x.diff then
    bif inR x.j x.cols.length || !x.diff then
      some
        (Sum.inl
          { n := x.n, a_lo := x.a_lo, a_len := x.a_len, a_cap := x.a_cap, b_lo := x.b_lo, b_len := x.b_len, b_cap := x.b_cap, many := x.many,
            diff := bif x.diff then x.cols[x.i.toNat]?.getD 0 != x.cols[x.j.toNat]?.getD 0 else false, odd := x.odd, i := x.i, j := IntKind.i64.wrap (x.j + 1), good := x.good,
            bad := x.bad, mask := x.mask, outs := x.outs, cols := x.cols, xa := x.xa, xb := x.xb })
    else none
  else none
else
  some
    (Sum.inr
      { n := x.n, a_lo := x.a_lo, a_len := x.a_len, a_cap := x.a_cap, b_lo := x.b_lo, b_len := x.b_len, b_cap := x.b_cap, many := x.many, diff := x.diff, odd := x.odd, i := x.i,
        good := x.good, bad := x.bad, mask := x.mask, outs := x.outs, cols := x.cols, xa := x.xa, xb := x.xb })
theorem s1_eq (x : p1X) : exec E2 174 (C5.bodyAt 1) 2 (p1.R x) (p1.H x) (roundK 0 p1 (.exit 2) q1) = s1 x := by kernel_rfl
noncomputable def l1 : LoopS := mkLoop 0 p1 (.exit 2) q1 s1
theorem t1 : topL (C5.bodyAt 1) 2 = [] := by kernel_rfl
theorem l1_ok : LoopOkS Try.prog 174 none 0 (C5.bodyAt 1) l1 := mkLoop_ok mixed (env_ok ty_ok cl_ok _) (by trivial) (fun _ => rfl) (fun _ => rfl) (t1 ▸ (AllL.nil)) s1_eq
noncomputable def E1 : Env := ⟨ty, cfOf cl, lpOf [(1, l1), (2, l2)]⟩
structure p0X where
  n : Int
  a_lo : Nat
  a_len : Nat
  a_cap : Nat
  b_lo : Nat
  b_len : Nat
  b_cap : Nat
  many : Int
  diff : Bool
  odd : Bool
  i : Int
  good : List (Int)
  bad : List (Int)
  mask : Int
  outs : Int
  cols : List (Int)
  xa : List (Int)
  xb : List (Int)

def p0 : Pt p0X where
  own := []
  t := ⟨[(3, .c (.ptr 1 0)), (5, .c (.ptr 2 0)), (6, .c (.it .i64)), (7, .c (.slc 3 0 1)), (8, .c (.slc 4 0 1)), (9, .c (.it .i64)), (10, .c (.bo)), (11, .c (.bo)), (12, .c (.it .i64))], [.st [.junk, .junk] 1 0, .st [.arr (.int .u8), .arr (.int .u8), .it .u64] 1 0, .st [.it .i64, .arr (.int .u64)] 1 0, .arr (.int .u8) 0, .arr (.int .u8) 0]⟩
  to := fun v => ⟨v.1.2.2.1, v.1.2.2.2.1.1, v.1.2.2.2.1.2.1, v.1.2.2.2.1.2.2, v.1.2.2.2.2.1.1, v.1.2.2.2.2.1.2.1, v.1.2.2.2.2.1.2.2, v.1.2.2.2.2.2.1, v.1.2.2.2.2.2.2.1, v.1.2.2.2.2.2.2.2.1, v.1.2.2.2.2.2.2.2.2.1, v.2.2.1.1, v.2.2.1.2.1, v.2.2.1.2.2.1, v.2.2.2.1.1, v.2.2.2.1.2.1, v.2.2.2.2.1, v.2.2.2.2.2.1⟩
  fr := fun x => (((), ((), (x.n, ((x.a_lo, x.a_len, x.a_cap), ((x.b_lo, x.b_len, x.b_cap), (x.many, (x.diff, (x.odd, (x.i, ()))))))))), (((), ((), ())), ((x.good, (x.bad, (x.mask, ()))), ((x.outs, (x.cols, ())), (x.xa, (x.xb, ()))))))
structure q0X where
  a : List (Int)
  b : List (Int)
  many : Int
  diff : Bool
  odd : Bool
  outs : Int
  cols : List (Int)

def q0 : Pt q0X where
  own := []
  t := ⟨[(5, .c (.ptr 2 0)), (7, .c (.arr (.int .u8))), (8, .c (.arr (.int .u8))), (9, .c (.it .i64)), (10, .c (.bo)), (11, .c (.bo))], [.st [.junk, .junk] 1 0, .st [.junk, .junk, .junk] 1 0, .st [.it .i64, .arr (.int .u64)] 1 0]⟩
  to := fun v => ⟨v.1.2.1, v.1.2.2.1, v.1.2.2.2.1, v.1.2.2.2.2.1, v.1.2.2.2.2.2.1, v.2.2.2.1.1, v.2.2.2.1.2.1⟩
  fr := fun x => (((), (x.a, (x.b, (x.many, (x.diff, (x.odd, ())))))), (((), ((), ())), (((), ((), ((), ()))), ((x.outs, (x.cols, ())), ()))))
noncomputable def s0 (x : p0X) : Option (p0X ⊕ q0X) :=
  bif decide (x.i < x.n) then
  bif decide (x.i < (↑x.good.length : Int)) then
    bif inR x.i x.good.length then
      bif inR x.i x.a_len then
        bif decide (x.a_lo + x.i.toNat < x.xa.length) then
          bif inR x.i x.a_len then
            bif decide (x.a_lo + x.i.toNat < (x.xa.set (x.a_lo + x.i.toNat) (Int.tmod (x.good[x.i.toNat]?.getD 0) 2)).length) then
              bif inR x.i x.b_len then
                bif decide (x.b_lo + x.i.toNat < x.xb.length) then
                  bif inR x.i x.bad.length || !decide (x.i < (↑x.bad.length : Int)) then
                    bif bif decide (x.i < (↑x.bad.length : Int)) then Int.tmod (x.bad[x.i.toNat]?.getD 0) 4 == 0 else false then
                      bif inR x.i x.a_len then
                        bif decide (x.a_lo + x.i.toNat < (x.xa.set (x.a_lo + x.i.toNat) (Int.tmod (x.good[x.i.toNat]?.getD 0) 2)).length) then
                          bif inR x.i x.b_len then
                            bif
                                decide
                                  (x.b_lo + x.i.toNat <
                                    (x.xb.set (x.b_lo + x.i.toNat)
                                        ((x.xa.set (x.a_lo + x.i.toNat) (Int.tmod (x.good[x.i.toNat]?.getD 0) 2))[x.a_lo + x.i.toNat]?.getD 0)).length) then
                              bif inR x.i x.cols.length || !x.diff then
                                bindO
                                  (iter s1
                                    { n := x.n, a_lo := x.a_lo, a_len := x.a_len, a_cap := x.a_cap, b_lo := x.b_lo, b_len := x.b_len, b_cap := x.b_cap,
                                      many := IntKind.i64.wrap (x.many + 1), diff := bif x.diff then x.cols[x.i.toNat]?.getD 0 != 0 else false, odd := x.odd, i := x.i, j := 0,
                                      good := x.good, bad := x.bad, mask := x.mask, outs := x.outs, cols := x.cols,
                                      xa := x.xa.set (x.a_lo + x.i.toNat) (Int.tmod (x.good[x.i.toNat]?.getD 0) 2),
                                      xb :=
                                        (x.xb.set (x.b_lo + x.i.toNat) ((x.xa.set (x.a_lo + x.i.toNat) (Int.tmod (x.good[x.i.toNat]?.getD 0) 2))[x.a_lo + x.i.toNat]?.getD 0)).set
                                          (x.b_lo + x.i.toNat)
                                          (IntKind.u8.wrap (1 - (x.xa.set (x.a_lo + x.i.toNat) (Int.tmod (x.good[x.i.toNat]?.getD 0) 2))[x.a_lo + x.i.toNat]?.getD 0)) })
                                  fun y =>
                                  bindO
                                    (iter s2
                                      { n := y.n, a_lo := y.a_lo, a_len := y.a_len, a_cap := y.a_cap, b_lo := y.b_lo, b_len := y.b_len, b_cap := y.b_cap, many := y.many,
                                        diff := y.diff, odd := y.odd, i := y.i, bits := 0, o := 0, good := y.good, bad := y.bad, mask := y.mask, outs := y.outs, cols := y.cols,
                                        xa := y.xa, xb := y.xb })
                                    fun y =>
                                    some
                                      (Sum.inl
                                        { n := y.n, a_lo := y.a_lo, a_len := y.a_len, a_cap := y.a_cap, b_lo := y.b_lo, b_len := y.b_len, b_cap := y.b_cap, many := y.many,
                                          diff := y.diff, odd := bif y.odd then y.bits.tmod 2 == 1 else false, i := IntKind.i64.wrap (y.i + 1), good := y.good, bad := y.bad,
                                          mask := y.mask, outs := y.outs, cols := y.cols, xa := y.xa, xb := y.xb })
                              else none
                            else none
                          else none
                        else none
                      else none
                    else
                      bif inR x.i x.cols.length || !x.diff then
                        bindO
                          (iter s1
                            { n := x.n, a_lo := x.a_lo, a_len := x.a_len, a_cap := x.a_cap, b_lo := x.b_lo, b_len := x.b_len, b_cap := x.b_cap, many := x.many,
                              diff := bif x.diff then x.cols[x.i.toNat]?.getD 0 != 0 else false, odd := x.odd, i := x.i, j := 0, good := x.good, bad := x.bad, mask := x.mask,
                              outs := x.outs, cols := x.cols, xa := x.xa.set (x.a_lo + x.i.toNat) (Int.tmod (x.good[x.i.toNat]?.getD 0) 2),
                              xb := x.xb.set (x.b_lo + x.i.toNat) ((x.xa.set (x.a_lo + x.i.toNat) (Int.tmod (x.good[x.i.toNat]?.getD 0) 2))[x.a_lo + x.i.toNat]?.getD 0) })
                          fun y =>
                          bindO
                            (iter s2
                              { n := y.n, a_lo := y.a_lo, a_len := y.a_len, a_cap := y.a_cap, b_lo := y.b_lo, b_len := y.b_len, b_cap := y.b_cap, many := y.many, diff := y.diff,
                                odd := y.odd, i := y.i, bits := 0, o := 0, good := y.good, bad := y.bad, mask := y.mask, outs := y.outs, cols := y.cols, xa := y.xa, xb := y.xb })
                            fun y =>
                            some
                              (Sum.inl
                                { n := y.n, a_lo := y.a_lo, a_len := y.a_len, a_cap := y.a_cap, b_lo := y.b_lo, b_len := y.b_len, b_cap := y.b_cap, many := y.many, diff := y.diff,
                                  odd := bif y.odd then y.bits.tmod 2 == 1 else false, i := IntKind.i64.wrap (y.i + 1), good := y.good, bad := y.bad, mask := y.mask,
                                  outs := y.outs, cols := y.cols, xa := y.xa, xb := y.xb })
                      else none
                  else none
                else none
              else none
            else none
          else none
        else none
      else none
    else none
  else
    bif inR x.i x.a_len then
      bif decide (x.a_lo + x.i.toNat < x.xa.length) then
        bif inR x.i x.b_len then
          bif decide (x.b_lo + x.i.toNat < x.xb.length) then
            bif inR x.i x.bad.length || !decide (x.i < (↑x.bad.length : Int)) then
              bif bif decide (x.i < (↑x.bad.length : Int)) then Int.tmod (x.bad[x.i.toNat]?.getD 0) 4 == 0 else false then
                bif inR x.i x.a_len then
                  bif decide (x.a_lo + x.i.toNat < x.xa.length) then
                    bif inR x.i x.b_len then
                      bif decide (x.b_lo + x.i.toNat < (x.xb.set (x.b_lo + x.i.toNat) (x.xa[x.a_lo + x.i.toNat]?.getD 0)).length) then
                        bif inR x.i x.cols.length || !x.diff then
                          bindO
                            (iter s1
                              { n := x.n, a_lo := x.a_lo, a_len := x.a_len, a_cap := x.a_cap, b_lo := x.b_lo, b_len := x.b_len, b_cap := x.b_cap,
                                many := IntKind.i64.wrap (x.many + 1), diff := bif x.diff then x.cols[x.i.toNat]?.getD 0 != 0 else false, odd := x.odd, i := x.i, j := 0,
                                good := x.good, bad := x.bad, mask := x.mask, outs := x.outs, cols := x.cols, xa := x.xa,
                                xb :=
                                  (x.xb.set (x.b_lo + x.i.toNat) (x.xa[x.a_lo + x.i.toNat]?.getD 0)).set (x.b_lo + x.i.toNat)
                                    (IntKind.u8.wrap (1 - x.xa[x.a_lo + x.i.toNat]?.getD 0)) })
                            fun y =>
                            bindO
                              (iter s2
                                { n := y.n, a_lo := y.a_lo, a_len := y.a_len, a_cap := y.a_cap, b_lo := y.b_lo, b_len := y.b_len, b_cap := y.b_cap, many := y.many, diff := y.diff,
                                  odd := y.odd, i := y.i, bits := 0, o := 0, good := y.good, bad := y.bad, mask := y.mask, outs := y.outs, cols := y.cols, xa := y.xa, xb := y.xb })
                              fun y =>
                              some
                                (Sum.inl
                                  { n := y.n, a_lo := y.a_lo, a_len := y.a_len, a_cap := y.a_cap, b_lo := y.b_lo, b_len := y.b_len, b_cap := y.b_cap, many := y.many,
                                    diff := y.diff, odd := bif y.odd then y.bits.tmod 2 == 1 else false, i := IntKind.i64.wrap (y.i + 1), good := y.good, bad := y.bad,
                                    mask := y.mask, outs := y.outs, cols := y.cols, xa := y.xa, xb := y.xb })
                        else none
                      else none
                    else none
                  else none
                else none
              else
                bif inR x.i x.cols.length || !x.diff then
                  bindO
                    (iter s1
                      { n := x.n, a_lo := x.a_lo, a_len := x.a_len, a_cap := x.a_cap, b_lo := x.b_lo, b_len := x.b_len, b_cap := x.b_cap, many := x.many,
                        diff := bif x.diff then x.cols[x.i.toNat]?.getD 0 != 0 else false, odd := x.odd, i := x.i, j := 0, good := x.good, bad := x.bad, mask := x.mask,
                        outs := x.outs, cols := x.cols, xa := x.xa, xb := x.xb.set (x.b_lo + x.i.toNat) (x.xa[x.a_lo + x.i.toNat]?.getD 0) })
                    fun y =>
                    bindO
                      (iter s2
                        { n := y.n, a_lo := y.a_lo, a_len := y.a_len, a_cap := y.a_cap, b_lo := y.b_lo, b_len := y.b_len, b_cap := y.b_cap, many := y.many, diff := y.diff,
                          odd := y.odd, i := y.i, bits := 0, o := 0, good := y.good, bad := y.bad, mask := y.mask, outs := y.outs, cols := y.cols, xa := y.xa, xb := y.xb })
                      fun y =>
                      some
                        (Sum.inl
                          { n := y.n, a_lo := y.a_lo, a_len := y.a_len, a_cap := y.a_cap, b_lo := y.b_lo, b_len := y.b_len, b_cap := y.b_cap, many := y.many, diff := y.diff,
                            odd := bif y.odd then y.bits.tmod 2 == 1 else false, i := IntKind.i64.wrap (y.i + 1), good := y.good, bad := y.bad, mask := y.mask, outs := y.outs,
                            cols := y.cols, xa := y.xa, xb := y.xb })
                else none
            else none
          else none
        else none
      else none
    else none
else
  bif leB (x.a_lo + x.a_len) x.xa.length && (leB (x.b_lo + x.b_len) x.xb.length && true) && true then
    some
      (Sum.inr
        { a := List.take x.a_len (List.drop x.a_lo x.xa), b := List.take x.b_len (List.drop x.b_lo x.xb), many := x.many, diff := x.diff, odd := x.odd, outs := x.outs,
          cols := x.cols })
  else none
theorem s0_eq (x : p0X) : exec E1 174 (C5.bodyAt 0) 1 (p0.R x) (p0.H x) (roundK 0 p0 (.exit 0) q0) = s0 x := by kernel_rfl
noncomputable def l0 : LoopS := mkLoop 0 p0 (.exit 0) q0 s0
theorem t0 : topL (C5.bodyAt 0) 1 = [(1, C5.bodyAt 1), (2, C5.bodyAt 2)] := by kernel_rfl
theorem l0_ok : LoopOkS Try.prog 174 none 0 (C5.bodyAt 0) l0 := mkLoop_ok mixed (env_ok ty_ok cl_ok _) (by trivial) (fun _ => rfl) (fun _ => rfl) (t0 ▸ (AllL.cons rfl l1_ok (AllL.cons rfl l2_ok (AllL.nil)))) s0_eq
noncomputable def E0 : Env := ⟨ty, cfOf cl, lpOf [(0, l0), (1, l1), (2, l2)]⟩
noncomputable def m (x : gX) : Option fY :=
  bif decide ((↑x.cols0.length : Int) > 12) then bindO (some PUnit.unit) fun y => some true
else
  bindO (F10.m { outs := x.outs0, cols := x.cols0 }) fun y =>
    bif
        decide (0 ≤ (↑y.snd.length : Int)) && decide ((↑y.snd.length : Int) ≤ (↑y.snd.length : Int)) && decide ((↑y.snd.length : Int) * (↑1 : Int) ≤ 281474976710656) &&
          decide ((↑y.snd.length : Int) ≤ 9223372036854775807) then
      bif
          decide (0 ≤ (↑y.snd.length : Int)) && decide ((↑y.snd.length : Int) ≤ (↑y.snd.length : Int)) && decide ((↑y.snd.length : Int) * (↑1 : Int) ≤ 281474976710656) &&
            decide ((↑y.snd.length : Int) ≤ 9223372036854775807) then
        bindO
          (iter s0
            { n := (↑y.snd.length : Int), a_lo := 0, a_len := (↑y.snd.length : Int).toNat, a_cap := (↑y.snd.length : Int).toNat, b_lo := 0, b_len := (↑y.snd.length : Int).toNat,
              b_cap := (↑y.snd.length : Int).toNat, many := 0, diff := true, odd := true, i := 0, good := x.good, bad := x.bad, mask := x.mask, outs := y.fst, cols := y.snd,
              xa := List.replicate (↑y.snd.length : Int).toNat 0, xb := List.replicate (↑y.snd.length : Int).toNat 0 })
          fun y =>
          bindO (F13.m { outs := y.outs, cols := y.cols, good := y.a, bad := y.b, mask := 0 }) fun y_1 =>
            bif bif y_1.snd != 0 then true else bif y.many == 0 then decide ((↑y_1.fst.length : Int) > 0) else false then some false
            else
              bif
                  bif bif bif bif y.many == 1 then true else y.many == 2 then y.diff else false then (↑y_1.fst.length : Int) == 0 else false then true
                  else bif bif y.many.tmod 2 == 1 then y.odd else false then (↑y_1.fst.length : Int) == 0 else false then
                some false
              else bindO (some PUnit.unit) fun y => some true
      else none
    else none
theorem m_eq (x : gX) : exec E0 174 C5 0 (initS 0 (g.A x)) (g.H x) (finish 0 ty [.tmp 4] f) = m x := by kernel_rfl
theorem tl : topL C5 0 = [(0, C5.bodyAt 0)] := by kernel_rfl
theorem known : Known Try.prog 5 g f m :=
  mk_known mixed (env_ok ty_ok cl_ok _) s5 rfl rfl tl (AllL.cons rfl l0_ok AllL.nil) (fun _ _ => ⟨rfl, rfl⟩) (fun _ _ => ⟨rfl, rfl⟩) m_eq
noncomputable def con : Con := conT g f m default
theorem con_ok : ConOk Try.prog 5 con := conT_ok known (fun _ => rfl) rfl
end F5
end Go.Proofs.Ytfcbahfdgopgfaa
