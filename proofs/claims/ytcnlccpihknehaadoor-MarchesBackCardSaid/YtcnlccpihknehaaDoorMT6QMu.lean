/-
  What the proof stands on.
-/
import Derived.Test.YtcnlccpihknehaaDoorMT6QM9
set_option linter.all false
namespace Go.Proofs.YtcnlccpihknehaaDoor
open Go.Abs
set_option maxRecDepth 100000
end Go.Proofs.YtcnlccpihknehaaDoor
namespace Go.Proofs.YtcnlccpihknehaaDoor
open Go.Abs
set_option maxRecDepth 100000
end Go.Proofs.YtcnlccpihknehaaDoor
namespace Go.Proofs.YtcnlccpihknehaaDoor
open Go.Abs
set_option maxRecDepth 100000
namespace M76
structure gX where
 w : Bool
 v : Int
def g : Sg gX where
 vs := [.agg [.bo,.it .u8]]
 h := []
 to := fun a b => ⟨a.1.1,a.1.2.1⟩
 fa := fun x => ((x.w,(x.v,())),())
 fh := fun x => ()
abbrev fY := Bool
def f : Ft fY where
 ord := none
 sh := .c (.bo)
 h := []
 to := fun a b => (a)
 fv := fun y => y
 fh := fun y => ()
def cl : List (FuncId × Con) := []
theorem cl_ok : allCon Tryd.prog cl := trivial
def E0 : Env := ⟨ty,cfOf cl,fun _ => none,none⟩
def m (x : gX) : Option fY := some (decide (x.v > 1))
theorem m_eq (x : gX) : exec E0 6 C76 0 (initS 0 (g.A x)) (g.H x) (finish 0 ty [.tmp 2] f) = m x := by kernel_rfl
theorem tl : topL C76 0 = [] := by kernel_rfl
theorem known : Known Tryd.prog 76 g f m :=
 mk_known mixed (env_ok ty_ok cl_ok _) s76 rfl rfl tl AllL.nil (fun _ _ => ⟨rfl,rfl⟩) (fun _ _ => ⟨rfl,rfl⟩) m_eq
def con : Con := conT g f m default
theorem con_ok : ConOk Tryd.prog 76 con := conT_ok known (fun _ => rfl) rfl
end M76
namespace M95
structure gX where
 s : List ((Bool) × Int)
def g : Sg gX where
 vs := [.c (.arr (.pair .bool (.int .u8))),.c (.fn 76)]
 h := []
 to := fun a b => ⟨a.1⟩
 fa := fun x => (x.s,((),()))
 fh := fun x => ()
abbrev fY := Int
def f : Ft fY where
 ord := none
 sh := .c (.it .i64)
 h := []
 to := fun a b => (a)
 fv := fun y => y
 fh := fun y => ()
def cl : List (FuncId × Con) := [(76,M76.con)]
theorem cl_ok : allCon Tryd.prog cl := ⟨M76.con_ok,trivial⟩
def E1 : Env := ⟨ty,cfOf cl,fun _ => none,none⟩
structure p0X where
 s : List ((Bool) × Int)
 n : Int
 i : Int
def p0 : Pt p0X where
 own := []
 t := ⟨[(0,.c (.arr (.pair .bool (.int .u8)))),(1,.c (.fn 76)),(7,.c (.it .i64)),(8,.c (.it .i64))],[]⟩
 to := fun v => ⟨v.1.1,v.1.2.2.1,v.1.2.2.2.1⟩
 fr := fun x => ((x.s,((),(x.n,(x.i,())))),())
abbrev q0X := Unit
def q0 : Pt q0X where
 own := []
 t := ⟨[],[]⟩
 to := fun v => ()
 fr := fun x => ((),())
structure z0X where
 r : Int
def z0 : Pt z0X where
 own := []
 t := ⟨[(4,.c (.it .i64))],[]⟩
 to := fun v => ⟨v.1.1⟩
 fr := fun x => ((x.r,()),())
def s0 (x : p0X) : Option (p0X ⊕ (q0X ⊕ z0X)) := bif decide (x.i < x.n) then bif inR x.i x.s.length then bindO (M76.m { w := (x.s[x.i.toNat]?.getD (false,0)).fst,v := (x.s[x.i.toNat]?.getD (false,0)).snd }) fun y => bif y then some (Sum.inr (Sum.inr { r := x.i })) else some (Sum.inl { s := x.s,n := x.n,i := IntKind.i64.wrap (x.i + 1) }) else none
else some (Sum.inr (Sum.inl PUnit.unit))
theorem s0_eq (x : p0X) : exec E1 19 (C95.bodyAt 0) 1 (p0.R x) (p0.H x) (roundK2 0 p0 (.exit 0) q0 .ret z0) = s0 x := by kernel_rfl
noncomputable def l0 : LoopS := mkLoop2 0 p0 (.exit 0) q0 .ret z0 s0
theorem tl0 : topL (C95.bodyAt 0) 1 = [] := by kernel_rfl
theorem l0_ok  : LoopOkS Tryd.prog 19 none 0 (C95.bodyAt 0) l0 := mkLoop2_ok mixed (env_ok ty_ok cl_ok _) (by trivial) (by trivial) (fun _ => rfl) (fun _ => rfl) (fun _ => rfl) (tl0 ▸ AllL.nil) s0_eq
noncomputable def E0 : Env := ⟨ty,cfOf cl,lpOf [(0,l0)],none⟩
noncomputable def m (x : gX) : Option fY := bindO (iter s0 { s := x.s,n := (↑x.s.length : Int),i := 0 }) fun s => sumC s (fun y => some (-1)) fun z => some z.r
theorem m_eq (x : gX) : exec E0 19 C95 0 (initS 0 (g.A x)) (g.H x) (finish 0 ty [.tmp 4] f) = m x := by kernel_rfl
theorem tl : topL C95 0 = [(0,C95.bodyAt 0)] := by kernel_rfl
theorem known : Known Tryd.prog 95 g f m :=
 mk_known mixed (env_ok ty_ok cl_ok _) s95 rfl rfl tl (AllL.cons rfl l0_ok AllL.nil) (fun _ _ => ⟨rfl,rfl⟩) (fun _ _ => ⟨rfl,rfl⟩) m_eq
noncomputable def con : Con := conT g f m default
theorem con_ok : ConOk Tryd.prog 95 con := conT_ok known (fun _ => rfl) rfl
end M95
namespace M75
structure gX where
 s : List ((Bool) × Int)
def g : Sg gX where
 vs := [.c (.arr (.pair .bool (.int .u8))),.c (.fn 76)]
 h := []
 to := fun a b => ⟨a.1⟩
 fa := fun x => (x.s,((),()))
 fh := fun x => ()
abbrev fY := Bool
def f : Ft fY where
 ord := none
 sh := .c (.bo)
 h := []
 to := fun a b => (a)
 fv := fun y => y
 fh := fun y => ()
noncomputable def cl : List (FuncId × Con) := [(95,M95.con)]
theorem cl_ok : allCon Tryd.prog cl := ⟨M95.con_ok,trivial⟩
noncomputable def E0 : Env := ⟨ty,cfOf cl,fun _ => none,none⟩
noncomputable def m (x : gX) : Option fY := bindO (M95.m { s := x.s }) fun y => some (decide (y ≥ 0))
theorem m_eq (x : gX) : exec E0 9 C75 0 (initS 0 (g.A x)) (g.H x) (finish 0 ty [.tmp 4] f) = m x := by kernel_rfl
theorem tl : topL C75 0 = [] := by kernel_rfl
theorem known : Known Tryd.prog 75 g f m :=
 mk_known mixed (env_ok ty_ok cl_ok _) s75 rfl rfl tl AllL.nil (fun _ _ => ⟨rfl,rfl⟩) (fun _ _ => ⟨rfl,rfl⟩) m_eq
noncomputable def con : Con := conT g f m default
theorem con_ok : ConOk Tryd.prog 75 con := conT_ok known (fun _ => rfl) rfl
end M75
namespace M73
structure gX where
 o : Int
 l : List ((Bool) × Int)
def g : Sg gX where
 vs := [.agg [.it .u8,.arr (.pair .bool (.int .u8))]]
 h := []
 to := fun a b => ⟨a.1.1,a.1.2.1⟩
 fa := fun x => ((x.o,(x.l,())),())
 fh := fun x => ()
abbrev fY := Bool
def f : Ft fY where
 ord := none
 sh := .c (.bo)
 h := []
 to := fun a b => (a)
 fv := fun y => y
 fh := fun y => ()
def cl : List (FuncId × Con) := []
theorem cl_ok : allCon Tryd.prog cl := trivial
def E0 : Env := ⟨ty,cfOf cl,fun _ => none,none⟩
def m (x : gX) : Option fY := some (decide ((↑x.l.length : Int) > 16))
theorem m_eq (x : gX) : exec E0 7 C73 0 (initS 0 (g.A x)) (g.H x) (finish 0 ty [.tmp 2] f) = m x := by kernel_rfl
theorem tl : topL C73 0 = [] := by kernel_rfl
theorem known : Known Tryd.prog 73 g f m :=
 mk_known mixed (env_ok ty_ok cl_ok _) s73 rfl rfl tl AllL.nil (fun _ _ => ⟨rfl,rfl⟩) (fun _ _ => ⟨rfl,rfl⟩) m_eq
def con : Con := conT g f m default
theorem con_ok : ConOk Tryd.prog 73 con := conT_ok known (fun _ => rfl) rfl
end M73
namespace M74
structure gX where
 o : Int
 l : List ((Bool) × Int)
def g : Sg gX where
 vs := [.agg [.it .u8,.arr (.pair .bool (.int .u8))]]
 h := []
 to := fun a b => ⟨a.1.1,a.1.2.1⟩
 fa := fun x => ((x.o,(x.l,())),())
 fh := fun x => ()
abbrev fY := Bool
def f : Ft fY where
 ord := none
 sh := .c (.bo)
 h := []
 to := fun a b => (a)
 fv := fun y => y
 fh := fun y => ()
noncomputable def cl : List (FuncId × Con) := [(75,M75.con)]
theorem cl_ok : allCon Tryd.prog cl := ⟨M75.con_ok,trivial⟩
noncomputable def E0 : Env := ⟨ty,cfOf cl,fun _ => none,none⟩
noncomputable def m (x : gX) : Option fY := bindO (bif !bif (↑x.l.length : Int) == 0 then true else decide (x.o > 2) then M75.m { s := x.l } else some false) fun y => some (bif bif (↑x.l.length : Int) == 0 then true else decide (x.o > 2) then true else y)
theorem m_eq (x : gX) : exec E0 17 C74 0 (initS 0 (g.A x)) (g.H x) (finish 0 ty [.tmp 2] f) = m x := by kernel_rfl
theorem tl : topL C74 0 = [] := by kernel_rfl
theorem known : Known Tryd.prog 74 g f m :=
 mk_known mixed (env_ok ty_ok cl_ok _) s74 rfl rfl tl AllL.nil (fun _ _ => ⟨rfl,rfl⟩) (fun _ _ => ⟨rfl,rfl⟩) m_eq
noncomputable def con : Con := conT g f m default
theorem con_ok : ConOk Tryd.prog 74 con := conT_ok known (fun _ => rfl) rfl
end M74
namespace M94a
structure gX where
 s : List ((Int) × List ((Bool) × Int))
def g : Sg gX where
 vs := [.c (.arr (.pair (.int .u8) (.sl (.pair .bool (.int .u8))))),.c (.fn 73)]
 h := []
 to := fun a b => ⟨a.1⟩
 fa := fun x => (x.s,((),()))
 fh := fun x => ()
abbrev fY := Int
def f : Ft fY where
 ord := none
 sh := .c (.it .i64)
 h := []
 to := fun a b => (a)
 fv := fun y => y
 fh := fun y => ()
def cl : List (FuncId × Con) := [(73,M73.con)]
theorem cl_ok : allCon Tryd.prog cl := ⟨M73.con_ok,trivial⟩
def E1 : Env := ⟨ty,cfOf cl,fun _ => none,none⟩
structure p0X where
 s : List ((Int) × List ((Bool) × Int))
 n : Int
 i : Int
def p0 : Pt p0X where
 own := []
 t := ⟨[(0,.c (.arr (.pair (.int .u8) (.sl (.pair .bool (.int .u8)))))),(1,.c (.fn 73)),(7,.c (.it .i64)),(8,.c (.it .i64))],[]⟩
 to := fun v => ⟨v.1.1,v.1.2.2.1,v.1.2.2.2.1⟩
 fr := fun x => ((x.s,((),(x.n,(x.i,())))),())
abbrev q0X := Unit
def q0 : Pt q0X where
 own := []
 t := ⟨[],[]⟩
 to := fun v => ()
 fr := fun x => ((),())
structure z0X where
 r : Int
def z0 : Pt z0X where
 own := []
 t := ⟨[(4,.c (.it .i64))],[]⟩
 to := fun v => ⟨v.1.1⟩
 fr := fun x => ((x.r,()),())
def s0 (x : p0X) : Option (p0X ⊕ (q0X ⊕ z0X)) := bif decide (x.i < x.n) then bif inR x.i x.s.length then bindO (M73.m { o := (x.s[x.i.toNat]?.getD (0,[])).fst,l := (x.s[x.i.toNat]?.getD (0,[])).snd }) fun y => bif y then some (Sum.inr (Sum.inr { r := x.i })) else some (Sum.inl { s := x.s,n := x.n,i := IntKind.i64.wrap (x.i + 1) }) else none
else some (Sum.inr (Sum.inl PUnit.unit))
theorem s0_eq (x : p0X) : exec E1 19 (C94.bodyAt 0) 1 (p0.R x) (p0.H x) (roundK2 0 p0 (.exit 0) q0 .ret z0) = s0 x := by kernel_rfl
noncomputable def l0 : LoopS := mkLoop2 0 p0 (.exit 0) q0 .ret z0 s0
theorem tl0 : topL (C94.bodyAt 0) 1 = [] := by kernel_rfl
theorem l0_ok  : LoopOkS Tryd.prog 19 none 0 (C94.bodyAt 0) l0 := mkLoop2_ok mixed (env_ok ty_ok cl_ok _) (by trivial) (by trivial) (fun _ => rfl) (fun _ => rfl) (fun _ => rfl) (tl0 ▸ AllL.nil) s0_eq
noncomputable def E0 : Env := ⟨ty,cfOf cl,lpOf [(0,l0)],none⟩
noncomputable def m (x : gX) : Option fY := bindO (iter s0 { s := x.s,n := (↑x.s.length : Int),i := 0 }) fun s => sumC s (fun y => some (-1)) fun z => some z.r
theorem m_eq (x : gX) : exec E0 19 C94 0 (initS 0 (g.A x)) (g.H x) (finish 0 ty [.tmp 4] f) = m x := by kernel_rfl
theorem tl : topL C94 0 = [(0,C94.bodyAt 0)] := by kernel_rfl
theorem known : Known Tryd.prog 94 g f m :=
 mk_known mixed (env_ok ty_ok cl_ok _) s94 rfl rfl tl (AllL.cons rfl l0_ok AllL.nil) (fun _ _ => ⟨rfl,rfl⟩) (fun _ _ => ⟨rfl,rfl⟩) m_eq
noncomputable def con : Con := conT g f m default
theorem con_ok : ConOk Tryd.prog 94 con := conT_ok known (fun _ => rfl) rfl
end M94a
namespace M72a
structure gX where
 s : List ((Int) × List ((Bool) × Int))
def g : Sg gX where
 vs := [.c (.arr (.pair (.int .u8) (.sl (.pair .bool (.int .u8))))),.c (.fn 73)]
 h := []
 to := fun a b => ⟨a.1⟩
 fa := fun x => (x.s,((),()))
 fh := fun x => ()
abbrev fY := Bool
def f : Ft fY where
 ord := none
 sh := .c (.bo)
 h := []
 to := fun a b => (a)
 fv := fun y => y
 fh := fun y => ()
noncomputable def cl : List (FuncId × Con) := [(94,M94a.con)]
theorem cl_ok : allCon Tryd.prog cl := ⟨M94a.con_ok,trivial⟩
noncomputable def E0 : Env := ⟨ty,cfOf cl,fun _ => none,none⟩
noncomputable def m (x : gX) : Option fY := bindO (M94a.m { s := x.s }) fun y => some (decide (y ≥ 0))
theorem m_eq (x : gX) : exec E0 9 C72 0 (initS 0 (g.A x)) (g.H x) (finish 0 ty [.tmp 4] f) = m x := by kernel_rfl
theorem tl : topL C72 0 = [] := by kernel_rfl
theorem known : Known Tryd.prog 72 g f m :=
 mk_known mixed (env_ok ty_ok cl_ok _) s72 rfl rfl tl AllL.nil (fun _ _ => ⟨rfl,rfl⟩) (fun _ _ => ⟨rfl,rfl⟩) m_eq
noncomputable def con : Con := conT g f m default
theorem con_ok : ConOk Tryd.prog 72 con := conT_ok known (fun _ => rfl) rfl
end M72a
namespace M94b
structure gX where
 s : List ((Int) × List ((Bool) × Int))
def g : Sg gX where
 vs := [.c (.arr (.pair (.int .u8) (.sl (.pair .bool (.int .u8))))),.c (.fn 74)]
 h := []
 to := fun a b => ⟨a.1⟩
 fa := fun x => (x.s,((),()))
 fh := fun x => ()
abbrev fY := Int
def f : Ft fY where
 ord := none
 sh := .c (.it .i64)
 h := []
 to := fun a b => (a)
 fv := fun y => y
 fh := fun y => ()
noncomputable def cl : List (FuncId × Con) := [(74,M74.con)]
theorem cl_ok : allCon Tryd.prog cl := ⟨M74.con_ok,trivial⟩
noncomputable def E1 : Env := ⟨ty,cfOf cl,fun _ => none,none⟩
structure p0X where
 s : List ((Int) × List ((Bool) × Int))
 n : Int
 i : Int
def p0 : Pt p0X where
 own := []
 t := ⟨[(0,.c (.arr (.pair (.int .u8) (.sl (.pair .bool (.int .u8)))))),(1,.c (.fn 74)),(7,.c (.it .i64)),(8,.c (.it .i64))],[]⟩
 to := fun v => ⟨v.1.1,v.1.2.2.1,v.1.2.2.2.1⟩
 fr := fun x => ((x.s,((),(x.n,(x.i,())))),())
abbrev q0X := Unit
def q0 : Pt q0X where
 own := []
 t := ⟨[],[]⟩
 to := fun v => ()
 fr := fun x => ((),())
structure z0X where
 r : Int
def z0 : Pt z0X where
 own := []
 t := ⟨[(4,.c (.it .i64))],[]⟩
 to := fun v => ⟨v.1.1⟩
 fr := fun x => ((x.r,()),())
noncomputable def s0 (x : p0X) : Option (p0X ⊕ (q0X ⊕ z0X)) := bif decide (x.i < x.n) then bif inR x.i x.s.length then bindO (M74.m { o := (x.s[x.i.toNat]?.getD (0,[])).fst,l := (x.s[x.i.toNat]?.getD (0,[])).snd }) fun y => bif y then some (Sum.inr (Sum.inr { r := x.i })) else some (Sum.inl { s := x.s,n := x.n,i := IntKind.i64.wrap (x.i + 1) }) else none
else some (Sum.inr (Sum.inl PUnit.unit))
theorem s0_eq (x : p0X) : exec E1 19 (C94.bodyAt 0) 1 (p0.R x) (p0.H x) (roundK2 0 p0 (.exit 0) q0 .ret z0) = s0 x := by kernel_rfl
noncomputable def l0 : LoopS := mkLoop2 0 p0 (.exit 0) q0 .ret z0 s0
theorem tl0 : topL (C94.bodyAt 0) 1 = [] := by kernel_rfl
theorem l0_ok  : LoopOkS Tryd.prog 19 none 0 (C94.bodyAt 0) l0 := mkLoop2_ok mixed (env_ok ty_ok cl_ok _) (by trivial) (by trivial) (fun _ => rfl) (fun _ => rfl) (fun _ => rfl) (tl0 ▸ AllL.nil) s0_eq
noncomputable def E0 : Env := ⟨ty,cfOf cl,lpOf [(0,l0)],none⟩
noncomputable def m (x : gX) : Option fY := bindO (iter s0 { s := x.s,n := (↑x.s.length : Int),i := 0 }) fun s => sumC s (fun y => some (-1)) fun z => some z.r
theorem m_eq (x : gX) : exec E0 19 C94 0 (initS 0 (g.A x)) (g.H x) (finish 0 ty [.tmp 4] f) = m x := by kernel_rfl
theorem tl : topL C94 0 = [(0,C94.bodyAt 0)] := by kernel_rfl
theorem known : Known Tryd.prog 94 g f m :=
 mk_known mixed (env_ok ty_ok cl_ok _) s94 rfl rfl tl (AllL.cons rfl l0_ok AllL.nil) (fun _ _ => ⟨rfl,rfl⟩) (fun _ _ => ⟨rfl,rfl⟩) m_eq
noncomputable def con : Con := conT g f m default
theorem con_ok : ConOk Tryd.prog 94 con := conT_ok known (fun _ => rfl) rfl
end M94b
namespace M72b
structure gX where
 s : List ((Int) × List ((Bool) × Int))
def g : Sg gX where
 vs := [.c (.arr (.pair (.int .u8) (.sl (.pair .bool (.int .u8))))),.c (.fn 74)]
 h := []
 to := fun a b => ⟨a.1⟩
 fa := fun x => (x.s,((),()))
 fh := fun x => ()
abbrev fY := Bool
def f : Ft fY where
 ord := none
 sh := .c (.bo)
 h := []
 to := fun a b => (a)
 fv := fun y => y
 fh := fun y => ()
noncomputable def cl : List (FuncId × Con) := [(94,M94b.con)]
theorem cl_ok : allCon Tryd.prog cl := ⟨M94b.con_ok,trivial⟩
noncomputable def E0 : Env := ⟨ty,cfOf cl,fun _ => none,none⟩
noncomputable def m (x : gX) : Option fY := bindO (M94b.m { s := x.s }) fun y => some (decide (y ≥ 0))
theorem m_eq (x : gX) : exec E0 9 C72 0 (initS 0 (g.A x)) (g.H x) (finish 0 ty [.tmp 4] f) = m x := by kernel_rfl
theorem tl : topL C72 0 = [] := by kernel_rfl
theorem known : Known Tryd.prog 72 g f m :=
 mk_known mixed (env_ok ty_ok cl_ok _) s72 rfl rfl tl AllL.nil (fun _ _ => ⟨rfl,rfl⟩) (fun _ _ => ⟨rfl,rfl⟩) m_eq
noncomputable def con : Con := conT g f m default
theorem con_ok : ConOk Tryd.prog 72 con := conT_ok known (fun _ => rfl) rfl
end M72b
namespace M43
structure gX where
 m : List ((Int) × List ((Bool) × Int))
def g : Sg gX where
 vs := [.c (.arr (.pair (.int .u8) (.sl (.pair .bool (.int .u8)))))]
 h := []
 to := fun a b => ⟨a.1⟩
 fa := fun x => (x.m,())
 fh := fun x => ()
abbrev fY := Int
def f : Ft fY where
 ord := none
 sh := .c (.it .i64)
 h := []
 to := fun a b => (a)
 fv := fun y => y
 fh := fun y => ()
noncomputable def cl : List (FuncId × Con) := [(72,M72a.con),(72,M72b.con)]
theorem cl_ok : allCon Tryd.prog cl := ⟨M72a.con_ok,M72b.con_ok,trivial⟩
noncomputable def E0 : Env := ⟨ty,cfOf cl,fun _ => none,none⟩
noncomputable def m (x : gX) : Option fY := bindO (bif !decide ((↑x.m.length : Int) > 32) then M72a.m { s := x.m } else some false) fun y => bif bif decide ((↑x.m.length : Int) > 32) then true else y then some 3 else bindO (bif !(↑x.m.length : Int) == 0 then M72b.m { s := x.m } else some false) fun y => bif bif (↑x.m.length : Int) == 0 then true else y then some 1 else some 0
theorem m_eq (x : gX) : exec E0 19 C43 0 (initS 0 (g.A x)) (g.H x) (finish 0 ty [.tmp 2] f) = m x := by kernel_rfl
theorem tl : topL C43 0 = [] := by kernel_rfl
theorem known : Known Tryd.prog 43 g f m :=
 mk_known mixed (env_ok ty_ok cl_ok _) s43 rfl rfl tl AllL.nil (fun _ _ => ⟨rfl,rfl⟩) (fun _ _ => ⟨rfl,rfl⟩) m_eq
noncomputable def con : Con := conT g f m default
theorem con_ok : ConOk Tryd.prog 43 con := conT_ok known (fun _ => rfl) rfl
end M43
namespace M19
structure gX where
 m : List ((Int) × List ((Bool) × Int))
def g : Sg gX where
 vs := [.c (.arr (.pair (.int .u8) (.sl (.pair .bool (.int .u8)))))]
 h := []
 to := fun a b => ⟨a.1⟩
 fa := fun x => (x.m,())
 fh := fun x => ()
abbrev fY := Int
def f : Ft fY where
 ord := none
 sh := .c (.it .i64)
 h := []
 to := fun a b => (a)
 fv := fun y => y
 fh := fun y => ()
noncomputable def cl : List (FuncId × Con) := [(43,M43.con)]
theorem cl_ok : allCon Tryd.prog cl := ⟨M43.con_ok,trivial⟩
noncomputable def E2 : Env := ⟨ty,cfOf cl,fun _ => none,none⟩
structure p1X where
 m : List ((Int) × List ((Bool) × Int))
 n : Int
 i : Int
 c : Int
 l : List ((Bool) × Int)
 n2 : Int
 k : Int
def p1 : Pt p1X where
 own := []
 t := ⟨[(14,.c (.arr (.pair (.int .u8) (.sl (.pair .bool (.int .u8)))))),(15,.c (.it .i64)),(16,.c (.it .i64)),(4,.c (.it .u8)),(21,.c (.arr (.pair .bool (.int .u8)))),(22,.c (.it .i64)),(23,.c (.it .i64))],[]⟩
 to := fun v => ⟨v.1.1,v.1.2.1,v.1.2.2.1,v.1.2.2.2.1,v.1.2.2.2.2.1,v.1.2.2.2.2.2.1,v.1.2.2.2.2.2.2.1⟩
 fr := fun x => ((x.m,(x.n,(x.i,(x.c,(x.l,(x.n2,(x.k,()))))))),())
structure q1X where
 m : List ((Int) × List ((Bool) × Int))
 n : Int
 i : Int
 c : Int
def q1 : Pt q1X where
 own := []
 t := ⟨[(14,.c (.arr (.pair (.int .u8) (.sl (.pair .bool (.int .u8)))))),(15,.c (.it .i64)),(16,.c (.it .i64)),(4,.c (.it .u8))],[]⟩
 to := fun v => ⟨v.1.1,v.1.2.1,v.1.2.2.1,v.1.2.2.2.1⟩
 fr := fun x => ((x.m,(x.n,(x.i,(x.c,())))),())
structure z1X where
 r : Int
def z1 : Pt z1X where
 own := []
 t := ⟨[(2,.c (.it .i64))],[]⟩
 to := fun v => ⟨v.1.1⟩
 fr := fun x => ((x.r,()),())
noncomputable def s1 (x : p1X) : Option (p1X ⊕ (q1X ⊕ z1X)) := bif decide (x.k < x.n2) then bif inR x.k x.l.length then bif bif !(x.l[x.k.toNat]?.getD (false,0)).fst then (x.l[x.k.toNat]?.getD (false,0)).snd != x.c else false then some (Sum.inr (Sum.inr { r := 11 })) else some (Sum.inl { m := x.m,n := x.n,i := x.i,c := (x.l[x.k.toNat]?.getD (false,0)).snd,l := x.l,n2 := x.n2,k := IntKind.i64.wrap (x.k + 1) }) else none
else some (Sum.inr (Sum.inl { m := x.m,n := x.n,i := x.i,c := x.c }))
theorem s1_eq (x : p1X) : exec E2 40 (C19.bodyAt 1) 2 (p1.R x) (p1.H x) (roundK2 0 p1 (.exit 2) q1 .ret z1) = s1 x := by kernel_rfl
noncomputable def l1 : LoopS := mkLoop2 0 p1 (.exit 2) q1 .ret z1 s1
theorem tl1 : topL (C19.bodyAt 1) 2 = [] := by kernel_rfl
theorem l1_ok  : LoopOkS Tryd.prog 40 none 0 (C19.bodyAt 1) l1 := mkLoop2_ok mixed (env_ok ty_ok cl_ok _) (by trivial) (by trivial) (fun _ => rfl) (fun _ => rfl) (fun _ => rfl) (tl1 ▸ AllL.nil) s1_eq
noncomputable def E1 : Env := ⟨ty,cfOf cl,lpOf [(1,l1)],none⟩
structure p0X where
 m : List ((Int) × List ((Bool) × Int))
 n : Int
 i : Int
 c : Int
def p0 : Pt p0X where
 own := []
 t := ⟨[(14,.c (.arr (.pair (.int .u8) (.sl (.pair .bool (.int .u8)))))),(15,.c (.it .i64)),(16,.c (.it .i64)),(4,.c (.it .u8))],[]⟩
 to := fun v => ⟨v.1.1,v.1.2.1,v.1.2.2.1,v.1.2.2.2.1⟩
 fr := fun x => ((x.m,(x.n,(x.i,(x.c,())))),())
abbrev q0X := Unit
def q0 : Pt q0X where
 own := []
 t := ⟨[],[]⟩
 to := fun v => ()
 fr := fun x => ((),())
structure z0X where
 r : Int
def z0 : Pt z0X where
 own := []
 t := ⟨[(2,.c (.it .i64))],[]⟩
 to := fun v => ⟨v.1.1⟩
 fr := fun x => ((x.r,()),())
noncomputable def s0 (x : p0X) : Option (p0X ⊕ (q0X ⊕ z0X)) := bif decide (x.i < x.n) then bif inR x.i x.m.length then bindO (iter s1 { m := x.m,n := x.n,i := x.i,c := x.c,l := (x.m[x.i.toNat]?.getD (0,[])).snd,n2 := (↑(List.length (x.m[x.i.toNat]?.getD (0,[])).snd) : Int),k := 0 }) fun s => sumC s (fun y => some (Sum.inl { m := y.m,n := y.n,i := IntKind.i64.wrap (y.i + 1),c := y.c })) fun z => some (Sum.inr (Sum.inr { r := z.r })) else none
else some (Sum.inr (Sum.inl PUnit.unit))
theorem s0_eq (x : p0X) : exec E1 40 (C19.bodyAt 0) 1 (p0.R x) (p0.H x) (roundK2 0 p0 (.exit 0) q0 .ret z0) = s0 x := by kernel_rfl
noncomputable def l0 : LoopS := mkLoop2 0 p0 (.exit 0) q0 .ret z0 s0
theorem tl0 : topL (C19.bodyAt 0) 1 = [(1,C19.bodyAt 1)] := by kernel_rfl
theorem l0_ok  : LoopOkS Tryd.prog 40 none 0 (C19.bodyAt 0) l0 := mkLoop2_ok mixed (env_ok ty_ok cl_ok _) (by trivial) (by trivial) (fun _ => rfl) (fun _ => rfl) (fun _ => rfl) (tl0 ▸ (AllL.cons rfl l1_ok AllL.nil)) s0_eq
noncomputable def E0 : Env := ⟨ty,cfOf cl,lpOf [(0,l0),(1,l1)],none⟩
noncomputable def m (x : gX) : Option fY := bindO (M43.m { m := x.m }) fun y => bif y != 0 then some y else bindO (iter s0 { m := x.m,n := (↑x.m.length : Int),i := 0,c := 2 }) fun s => sumC s (fun y => some 0) fun z => some z.r
theorem m_eq (x : gX) : exec E0 40 C19 0 (initS 0 (g.A x)) (g.H x) (finish 0 ty [.tmp 2] f) = m x := by kernel_rfl
theorem tl : topL C19 0 = [(0,C19.bodyAt 0)] := by kernel_rfl
theorem known : Known Tryd.prog 19 g f m :=
 mk_known mixed (env_ok ty_ok cl_ok _) s19 rfl rfl tl (AllL.cons rfl l0_ok AllL.nil) (fun _ _ => ⟨rfl,rfl⟩) (fun _ _ => ⟨rfl,rfl⟩) m_eq
noncomputable def con : Con := conT g f m default
theorem con_ok : ConOk Tryd.prog 19 con := conT_ok known (fun _ => rfl) rfl
end M19
namespace M23
structure gX where
 m : List ((Int) × List ((Bool) × Int))
def g : Sg gX where
 vs := [.c (.arr (.pair (.int .u8) (.sl (.pair .bool (.int .u8)))))]
 h := []
 to := fun a b => ⟨a.1⟩
 fa := fun x => (x.m,())
 fh := fun x => ()
abbrev fY := Int
def f : Ft fY where
 ord := none
 sh := .c (.it .i64)
 h := []
 to := fun a b => (a)
 fv := fun y => y
 fh := fun y => ()
def cl : List (FuncId × Con) := []
theorem cl_ok : allCon Tryd.prog cl := trivial
def E1 : Env := ⟨ty,cfOf cl,fun _ => none,none⟩
structure p0X where
 m : List ((Int) × List ((Bool) × Int))
 k : Int
 i : Int
 n : Int
def p0 : Pt p0X where
 own := []
 t := ⟨[(6,.c (.arr (.pair (.int .u8) (.sl (.pair .bool (.int .u8)))))),(7,.c (.it .i64)),(8,.c (.it .i64)),(3,.c (.it .i64))],[]⟩
 to := fun v => ⟨v.1.1,v.1.2.1,v.1.2.2.1,v.1.2.2.2.1⟩
 fr := fun x => ((x.m,(x.k,(x.i,(x.n,())))),())
structure q0X where
 n : Int
def q0 : Pt q0X where
 own := []
 t := ⟨[(3,.c (.it .i64))],[]⟩
 to := fun v => ⟨v.1.1⟩
 fr := fun x => ((x.n,()),())
def s0 (x : p0X) : Option (p0X ⊕ q0X) := bif decide (x.i < x.k) then bif inR x.i x.m.length then some (Sum.inl { m := x.m,k := x.k,i := IntKind.i64.wrap (x.i + 1),n := IntKind.i64.wrap (x.n + (↑(List.length (x.m[x.i.toNat]?.getD (0,[])).snd) : Int)) }) else none
else some (Sum.inr { n := x.n })
theorem s0_eq (x : p0X) : exec E1 19 (C23.bodyAt 0) 1 (p0.R x) (p0.H x) (roundK 0 p0 (.exit 0) q0) = s0 x := by kernel_rfl
noncomputable def l0 : LoopS := mkLoop 0 p0 (.exit 0) q0 s0
theorem tl0 : topL (C23.bodyAt 0) 1 = [] := by kernel_rfl
theorem l0_ok  : LoopOkS Tryd.prog 19 none 0 (C23.bodyAt 0) l0 := mkLoop_ok mixed (env_ok ty_ok cl_ok _) (by trivial) (fun _ => rfl) (fun _ => rfl) (tl0 ▸ AllL.nil) s0_eq
noncomputable def E0 : Env := ⟨ty,cfOf cl,lpOf [(0,l0)],none⟩
noncomputable def m (x : gX) : Option fY := bindO (iter s0 { m := x.m,k := (↑x.m.length : Int),i := 0,n := 0 }) fun y => some y.n
theorem m_eq (x : gX) : exec E0 19 C23 0 (initS 0 (g.A x)) (g.H x) (finish 0 ty [.tmp 2] f) = m x := by kernel_rfl
theorem tl : topL C23 0 = [(0,C23.bodyAt 0)] := by kernel_rfl
theorem known : Known Tryd.prog 23 g f m :=
 mk_known mixed (env_ok ty_ok cl_ok _) s23 rfl rfl tl (AllL.cons rfl l0_ok AllL.nil) (fun _ _ => ⟨rfl,rfl⟩) (fun _ _ => ⟨rfl,rfl⟩) m_eq
noncomputable def con : Con := conT g f m default
theorem con_ok : ConOk Tryd.prog 23 con := conT_ok known (fun _ => rfl) rfl
end M23
namespace M44
structure gX where
 n : Int
 down : Bool
def g : Sg gX where
 vs := [.c (.it .i64),.c (.bo)]
 h := []
 to := fun a b => ⟨a.1,a.2.1⟩
 fa := fun x => (x.n,(x.down,()))
 fh := fun x => ()
abbrev fY := Int × Bool
def f : Ft fY where
 ord := none
 sh := .c (.clo 77 [⟨0,0,0⟩,⟨1,0,0⟩])
 h := [.st [.it .i64] 1 0,.st [.bo] 1 0]
 to := fun a b => (b.1.1,b.2.1.1)
 fv := fun y => ()
 fh := fun y => ((y.1,()),((y.2,()),()))
def cl : List (FuncId × Con) := []
theorem cl_ok : allCon Tryd.prog cl := trivial
def E0 : Env := ⟨ty,cfOf cl,fun _ => none,none⟩
def m (x : gX) : Option fY := some (x.n,x.down)
theorem m_eq (x : gX) : exec E0 6 C44 0 (initS 0 (g.A x)) (g.H x) (finish 0 ty [.tmp 4] f) = m x := by kernel_rfl
theorem tl : topL C44 0 = [] := by kernel_rfl
theorem known : Known Tryd.prog 44 g f m :=
 mk_known mixed (env_ok ty_ok cl_ok _) s44 rfl rfl tl AllL.nil (fun _ _ => ⟨rfl,rfl⟩) (fun _ _ => ⟨rfl,rfl⟩) m_eq
def con : Con := conG g [] f m default
theorem con_ok : ConOk Tryd.prog 44 con := conG_ok known
end M44
end Go.Proofs.YtcnlccpihknehaaDoor
namespace Go.Proofs.YtcnlccpihknehaaDoor
open Go.Abs
set_option maxRecDepth 100000
namespace M20
structure gX where
 m : List ((Int) × List ((Bool) × Int))
 n : Int
 down : Bool
def g : Sg gX where
 vs := [.c (.arr (.pair (.int .u8) (.sl (.pair .bool (.int .u8))))),.c (.it .i64),.c (.bo)]
 h := []
 to := fun a b => ⟨a.1,a.2.1,a.2.2.1⟩
 fa := fun x => (x.m,(x.n,(x.down,())))
 fh := fun x => ()
abbrev fY := (List ((Int) × (Int) × (Bool) × Int)) × Int
def f : Ft fY where
 ord := none
 sh := .tup [.inl (.arr (.pair (.int .i64) (.pair (.int .i64) (.pair .bool (.int .u8))))),.inl (.it .i64)]
 h := []
 to := fun a b => (a.1,a.2.1)
 fv := fun y => (y.1,(y.2,()))
 fh := fun y => ()
noncomputable def cl : List (FuncId × Con) := [(19,M19.con),(23,M23.con),(44,M44.con)]
theorem cl_ok : allCon Tryd.prog cl := ⟨M19.con_ok,M23.con_ok,M44.con_ok,trivial⟩
def R1 : CC := C20.rngAt 1
noncomputable def EB1_1 : Env := ⟨ty,cfOf cl,fun _ => none,none⟩
structure b1_p0X where
 x : Int
 ops : List ((Bool) × Int)
 h : Int
 j : Int
 n7 : Int
 i7 : Int
 n : Int
 down : Bool
 m : List ((Int) × List ((Bool) × Int))
 k : Int
 i : Int
 a : List ((Int) × (Int) × (Bool) × Int)
 c_lo : Nat
 c_len : Nat
 c_cap : Nat
 ei : Int
 o : Int
 l : List ((Bool) × Int)
 nn : Int
 dd : Bool
def b1_p0 : Pt b1_p0X where
 own := []
 t := ⟨[(9,.c (.ptr 1 0)),(10,.c (.ptr 2 0)),(12,.c (.it .i64)),(54,.c (.arr (.pair .bool (.int .u8)))),(55,.c (.it .i64)),(56,.c (.it .i64)),(11,.c (.ptr 3 0)),(1000000,.c (.clo 1000000 [])),(1000001,.c (.ptr 4 0)),(1000002,.c (.ptr 5 0)),(1000006,.c (.it .i64)),(1000007,.c (.it .i64)),(2000001,.c (.it .i64)),(2000002,.c (.bo)),(2000009,.c (.ptr 1 0)),(2000032,.c (.arr (.pair (.int .u8) (.sl (.pair .bool (.int .u8)))))),(2000033,.c (.it .i64)),(2000034,.c (.it .i64)),(2000010,.c (.ptr 2 0)),(2000011,.c (.ptr 3 0))],[.arr (.pair (.int .i64) (.pair (.int .i64) (.pair .bool (.int .u8)))) 0,.st [.slc 0 0 4] 1 0,.st [.it .i64] 1 0,.st [.it .u8,.arr (.pair .bool (.int .u8))] 1 0,.st [.it .i64] 1 0,.st [.bo] 1 0]⟩
 to := fun v => ⟨v.1.2.2.1,v.1.2.2.2.1,v.1.2.2.2.2.1,v.1.2.2.2.2.2.1,v.1.2.2.2.2.2.2.2.2.2.2.1,v.1.2.2.2.2.2.2.2.2.2.2.2.1,v.1.2.2.2.2.2.2.2.2.2.2.2.2.1,v.1.2.2.2.2.2.2.2.2.2.2.2.2.2.1,v.1.2.2.2.2.2.2.2.2.2.2.2.2.2.2.2.1,v.1.2.2.2.2.2.2.2.2.2.2.2.2.2.2.2.2.1,v.1.2.2.2.2.2.2.2.2.2.2.2.2.2.2.2.2.2.1,v.2.1,v.2.2.1.1.1,v.2.2.1.1.2.1,v.2.2.1.1.2.2,v.2.2.2.1.1,v.2.2.2.2.1.1,v.2.2.2.2.1.2.1,v.2.2.2.2.2.1.1,v.2.2.2.2.2.2.1.1⟩
 fr := fun x => (((),((),(x.x,(x.ops,(x.h,(x.j,((),((),((),((),(x.n7,(x.i7,(x.n,(x.down,((),(x.m,(x.k,(x.i,((),((),())))))))))))))))))))),(x.a,(((x.c_lo,x.c_len,x.c_cap),()),((x.ei,()),((x.o,(x.l,())),((x.nn,()),((x.dd,()),())))))))
structure b1_q0X where
 n7 : Int
 i7 : Int
 n : Int
 down : Bool
 m : List ((Int) × List ((Bool) × Int))
 k : Int
 i : Int
 a : List ((Int) × (Int) × (Bool) × Int)
 c_lo : Nat
 c_len : Nat
 c_cap : Nat
 ei : Int
 o : Int
 l : List ((Bool) × Int)
 nn : Int
 dd : Bool
def b1_q0 : Pt b1_q0X where
 own := []
 t := ⟨[(1000000,.c (.clo 1000000 [])),(1000001,.c (.ptr 4 0)),(1000002,.c (.ptr 5 0)),(1000006,.c (.it .i64)),(1000007,.c (.it .i64)),(2000001,.c (.it .i64)),(2000002,.c (.bo)),(2000009,.c (.ptr 1 0)),(2000032,.c (.arr (.pair (.int .u8) (.sl (.pair .bool (.int .u8)))))),(2000033,.c (.it .i64)),(2000034,.c (.it .i64)),(2000010,.c (.ptr 2 0)),(2000011,.c (.ptr 3 0))],[.arr (.pair (.int .i64) (.pair (.int .i64) (.pair .bool (.int .u8)))) 0,.st [.slc 0 0 4] 1 0,.st [.it .i64] 1 0,.st [.it .u8,.arr (.pair .bool (.int .u8))] 1 0,.st [.it .i64] 1 0,.st [.bo] 1 0]⟩
 to := fun v => ⟨v.1.2.2.2.1,v.1.2.2.2.2.1,v.1.2.2.2.2.2.1,v.1.2.2.2.2.2.2.1,v.1.2.2.2.2.2.2.2.2.1,v.1.2.2.2.2.2.2.2.2.2.1,v.1.2.2.2.2.2.2.2.2.2.2.1,v.2.1,v.2.2.1.1.1,v.2.2.1.1.2.1,v.2.2.1.1.2.2,v.2.2.2.1.1,v.2.2.2.2.1.1,v.2.2.2.2.1.2.1,v.2.2.2.2.2.1.1,v.2.2.2.2.2.2.1.1⟩
 fr := fun x => (((),((),((),(x.n7,(x.i7,(x.n,(x.down,((),(x.m,(x.k,(x.i,((),((),()))))))))))))),(x.a,(((x.c_lo,x.c_len,x.c_cap),()),((x.ei,()),((x.o,(x.l,())),((x.nn,()),((x.dd,()),())))))))
noncomputable def b1_s0 (x : b1_p0X) : Option (b1_p0X ⊕ b1_q0X) := bif decide (x.j < x.h) then bif inR x.j x.ops.length then bif leB (x.c_len + 1) x.c_cap && leB (x.c_lo + x.c_cap) x.a.length then some (Sum.inl { x := x.x,ops := x.ops,h := x.h,j := IntKind.i64.wrap (x.j + 1),n7 := x.n7,i7 := x.i7,n := x.n,down := x.down,m := x.m,k := x.k,i := x.i,a := List.take (x.c_lo + x.c_len) x.a ++ [(x.ei,x.x,(x.ops[x.j.toNat]?.getD (false,0)).fst,(x.ops[x.j.toNat]?.getD (false,0)).snd)] ++ List.drop (x.c_lo + x.c_len + 1) x.a,c_lo := x.c_lo,c_len := x.c_len + 1,c_cap := x.c_cap,ei := x.ei,o := x.o,l := x.l,nn := x.nn,dd := x.dd }) else none else none
else
 some
   (Sum.inr
     { n7 := x.n7,i7 := x.i7,n := x.n,down := x.down,m := x.m,k := x.k,i := x.i,a := x.a,c_lo := x.c_lo,c_len := x.c_len,c_cap := x.c_cap,ei := x.ei,o := x.o,
       l := x.l,nn := x.nn,dd := x.dd })
theorem b1_s0_eq (x : b1_p0X) : exec EB1_1 70 (R1.rB.bodyAt 0) 1 (b1_p0.R x) (b1_p0.H x) (roundK 0 b1_p0 (.exit 5) b1_q0) = b1_s0 x := by kernel_rfl
noncomputable def b1_l0 : LoopS := mkLoop 0 b1_p0 (.exit 5) b1_q0 b1_s0
theorem tb1_l0 : topL (R1.rB.bodyAt 0) 1 = [] := by kernel_rfl
theorem b1_l0_ok (l : Nat) : LoopOkS Tryd.prog 70 (some l) 0 (R1.rB.bodyAt 0) b1_l0 := mkLoop_ok mixed (env_ok ty_ok cl_ok _) (by trivial) (fun _ => rfl) (fun _ => rfl) (tb1_l0 ▸ AllL.nil) b1_s0_eq
noncomputable def EB1_0 : Env := ⟨ty,cfOf cl,lpOf [(0,b1_l0)],none⟩
structure bp1X where
 x : Int
 n7 : Int
 i7 : Int
 n : Int
 down : Bool
 m : List ((Int) × List ((Bool) × Int))
 k : Int
 i : Int
 a : List ((Int) × (Int) × (Bool) × Int)
 c_lo : Nat
 c_len : Nat
 c_cap : Nat
 ei : Int
 o : Int
 l : List ((Bool) × Int)
 nn : Int
 dd : Bool
def bp1 : Pt bp1X where
 own := []
 t := ⟨[(9,.c (.ptr 1 0)),(10,.c (.ptr 2 0)),(11,.c (.ptr 3 0)),(52,.c (.it .i64)),(1000000,.c (.clo 1000000 [])),(1000001,.c (.ptr 4 0)),(1000002,.c (.ptr 5 0)),(1000006,.c (.it .i64)),(1000007,.c (.it .i64)),(2000001,.c (.it .i64)),(2000002,.c (.bo)),(2000009,.c (.ptr 1 0)),(2000032,.c (.arr (.pair (.int .u8) (.sl (.pair .bool (.int .u8)))))),(2000033,.c (.it .i64)),(2000034,.c (.it .i64)),(2000010,.c (.ptr 2 0)),(2000011,.c (.ptr 3 0))],[.arr (.pair (.int .i64) (.pair (.int .i64) (.pair .bool (.int .u8)))) 0,.st [.slc 0 0 4] 1 0,.st [.it .i64] 1 0,.st [.it .u8,.arr (.pair .bool (.int .u8))] 1 0,.st [.it .i64] 1 0,.st [.bo] 1 0]⟩
 to := fun v => ⟨v.1.2.2.2.1,v.1.2.2.2.2.2.2.2.1,v.1.2.2.2.2.2.2.2.2.1,v.1.2.2.2.2.2.2.2.2.2.1,v.1.2.2.2.2.2.2.2.2.2.2.1,v.1.2.2.2.2.2.2.2.2.2.2.2.2.1,v.1.2.2.2.2.2.2.2.2.2.2.2.2.2.1,v.1.2.2.2.2.2.2.2.2.2.2.2.2.2.2.1,v.2.1,v.2.2.1.1.1,v.2.2.1.1.2.1,v.2.2.1.1.2.2,v.2.2.2.1.1,v.2.2.2.2.1.1,v.2.2.2.2.1.2.1,v.2.2.2.2.2.1.1,v.2.2.2.2.2.2.1.1⟩
 fr := fun x => (((),((),((),(x.x,((),((),((),(x.n7,(x.i7,(x.n,(x.down,((),(x.m,(x.k,(x.i,((),((),()))))))))))))))))),(x.a,(((x.c_lo,x.c_len,x.c_cap),()),((x.ei,()),((x.o,(x.l,())),((x.nn,()),((x.dd,()),())))))))
structure bq1X where
 n7 : Int
 i7 : Int
 n : Int
 down : Bool
 m : List ((Int) × List ((Bool) × Int))
 k : Int
 i : Int
 a : List ((Int) × (Int) × (Bool) × Int)
 c_lo : Nat
 c_len : Nat
 c_cap : Nat
 ei : Int
 o : Int
 l : List ((Bool) × Int)
 nn : Int
 dd : Bool
def bq1 : Pt bq1X where
 own := []
 t := ⟨[(1000000,.c (.clo 1000000 [])),(1000001,.c (.ptr 4 0)),(1000002,.c (.ptr 5 0)),(1000006,.c (.it .i64)),(1000007,.c (.it .i64)),(2000001,.c (.it .i64)),(2000002,.c (.bo)),(2000009,.c (.ptr 1 0)),(2000032,.c (.arr (.pair (.int .u8) (.sl (.pair .bool (.int .u8)))))),(2000033,.c (.it .i64)),(2000034,.c (.it .i64)),(2000010,.c (.ptr 2 0)),(2000011,.c (.ptr 3 0))],[.arr (.pair (.int .i64) (.pair (.int .i64) (.pair .bool (.int .u8)))) 0,.st [.slc 0 0 4] 1 0,.st [.it .i64] 1 0,.st [.it .u8,.arr (.pair .bool (.int .u8))] 1 0,.st [.it .i64] 1 0,.st [.bo] 1 0]⟩
 to := fun v => ⟨v.1.2.2.2.1,v.1.2.2.2.2.1,v.1.2.2.2.2.2.1,v.1.2.2.2.2.2.2.1,v.1.2.2.2.2.2.2.2.2.1,v.1.2.2.2.2.2.2.2.2.2.1,v.1.2.2.2.2.2.2.2.2.2.2.1,v.2.1,v.2.2.1.1.1,v.2.2.1.1.2.1,v.2.2.1.1.2.2,v.2.2.2.1.1,v.2.2.2.2.1.1,v.2.2.2.2.1.2.1,v.2.2.2.2.2.1.1,v.2.2.2.2.2.2.1.1⟩
 fr := fun x => (((),((),((),(x.n7,(x.i7,(x.n,(x.down,((),(x.m,(x.k,(x.i,((),((),()))))))))))))),(x.a,(((x.c_lo,x.c_len,x.c_cap),()),((x.ei,()),((x.o,(x.l,())),((x.nn,()),((x.dd,()),())))))))
noncomputable def sb1 (x : bp1X) : Option bq1X := bindO (iter b1_s0 { x := x.x,ops := x.l,h := (↑x.l.length : Int),j := 0,n7 := x.n7,i7 := x.i7,n := x.n,down := x.down,m := x.m,k := x.k,i := x.i,a := x.a,c_lo := x.c_lo,c_len := x.c_len,c_cap := x.c_cap,ei := x.ei,o := x.o,l := x.l,nn := x.nn,dd := x.dd }) fun y => some { n7 := y.n7,i7 := y.i7,n := y.n,down := y.down,m := y.m,k := y.k,i := y.i,a := y.a,c_lo := y.c_lo,c_len := y.c_len,c_cap := y.c_cap,ei := y.ei,o := y.o,l := y.l,nn := y.nn,dd := y.dd }
theorem sb1_eq (x : bp1X) : roundRun EB1_0 70 R1.rA R1.rB (bp1.R x) (bp1.H x) (endK 0 bq1) = sb1 x := by kernel_rfl
noncomputable def ub1 : LoopS := mkUnit 0 bp1 bq1 sb1
theorem ta1 : topL R1.rA 0 = [] := by kernel_rfl
theorem tb1 : topL R1.rB R1.rA.nl = [(0,R1.rB.bodyAt 0)] := by kernel_rfl
theorem ub1_ok {y : YI} (hy : Rnd R1.rA R1.rB R1.rP 70 y) : BodyOkS Tryd.prog 70 0 y.assign y.body ub1 := mkBody_ok mixed (env_ok ty_ok cl_ok _) rfl ⟨by kernel_rfl,by kernel_rfl⟩ (fun _ => rfl) (fun _ => rfl) (fun _ => ta1 ▸ AllL.nil) (fun l => tb1 ▸ (AllL.cons rfl (b1_l0_ok l) AllL.nil)) sb1_eq hy
noncomputable def EI1_1 : Env := ⟨ty,cfOf cl,fun _ => none,some (R1.rP,ub1)⟩
theorem yi1_1 {y : YI} (hy : Rnd R1.rA R1.rB R1.rP 70 y) : YldOk Tryd.prog 0 EI1_1 (some y) := yld_ok rfl (by kernel_rfl) (by kernel_rfl) ub1_ok hy
structure i1_p0X where
 n7 : Int
 i7 : Int
 n : Int
 down : Bool
 m : List ((Int) × List ((Bool) × Int))
 k : Int
 i : Int
 a : List ((Int) × (Int) × (Bool) × Int)
 c_lo : Nat
 c_len : Nat
 c_cap : Nat
 ei : Int
 o : Int
 l : List ((Bool) × Int)
 nn : Int
 dd : Bool
def i1_p0 : Pt i1_p0X where
 own := []
 t := ⟨[(0,.c (.clo 1000000 [])),(1,.c (.ptr 4 0)),(2,.c (.ptr 5 0)),(6,.c (.it .i64)),(7,.c (.it .i64)),(2000001,.c (.it .i64)),(2000002,.c (.bo)),(2000009,.c (.ptr 1 0)),(2000032,.c (.arr (.pair (.int .u8) (.sl (.pair .bool (.int .u8)))))),(2000033,.c (.it .i64)),(2000034,.c (.it .i64)),(2000010,.c (.ptr 2 0)),(2000011,.c (.ptr 3 0)),(3000000,.c (.fn 0))],[.arr (.pair (.int .i64) (.pair (.int .i64) (.pair .bool (.int .u8)))) 0,.st [.slc 0 0 4] 1 0,.st [.it .i64] 1 0,.st [.it .u8,.arr (.pair .bool (.int .u8))] 1 0,.st [.it .i64] 1 0,.st [.bo] 1 0]⟩
 to := fun v => ⟨v.1.2.2.2.1,v.1.2.2.2.2.1,v.1.2.2.2.2.2.1,v.1.2.2.2.2.2.2.1,v.1.2.2.2.2.2.2.2.2.1,v.1.2.2.2.2.2.2.2.2.2.1,v.1.2.2.2.2.2.2.2.2.2.2.1,v.2.1,v.2.2.1.1.1,v.2.2.1.1.2.1,v.2.2.1.1.2.2,v.2.2.2.1.1,v.2.2.2.2.1.1,v.2.2.2.2.1.2.1,v.2.2.2.2.2.1.1,v.2.2.2.2.2.2.1.1⟩
 fr := fun x => (((),((),((),(x.n7,(x.i7,(x.n,(x.down,((),(x.m,(x.k,(x.i,((),((),((),())))))))))))))),(x.a,(((x.c_lo,x.c_len,x.c_cap),()),((x.ei,()),((x.o,(x.l,())),((x.nn,()),((x.dd,()),())))))))
structure i1_q0X where
 n : Int
 down : Bool
 m : List ((Int) × List ((Bool) × Int))
 k : Int
 i : Int
 a : List ((Int) × (Int) × (Bool) × Int)
 c_lo : Nat
 c_len : Nat
 c_cap : Nat
def i1_q0 : Pt i1_q0X where
 own := []
 t := ⟨[(2000001,.c (.it .i64)),(2000002,.c (.bo)),(2000009,.c (.ptr 1 0)),(2000032,.c (.arr (.pair (.int .u8) (.sl (.pair .bool (.int .u8)))))),(2000033,.c (.it .i64)),(2000034,.c (.it .i64)),(3000000,.c (.fn 0))],[.arr (.pair (.int .i64) (.pair (.int .i64) (.pair .bool (.int .u8)))) 0,.st [.slc 0 0 4] 1 0]⟩
 to := fun v => ⟨v.1.1,v.1.2.1,v.1.2.2.2.1,v.1.2.2.2.2.1,v.1.2.2.2.2.2.1,v.2.1,v.2.2.1.1.1,v.2.2.1.1.2.1,v.2.2.1.1.2.2⟩
 fr := fun x => ((x.n,(x.down,((),(x.m,(x.k,(x.i,((),()))))))),(x.a,(((x.c_lo,x.c_len,x.c_cap),()),())))
noncomputable def i1_s0 (x : i1_p0X) : Option (i1_p0X ⊕ i1_q0X) := bif decide (x.i7 < x.n7) then bindO (sb1 { x := bif x.dd then IntKind.i64.wrap (IntKind.i64.wrap (x.nn - 1) - x.i7) else x.i7,n7 := x.n7,i7 := x.i7,n := x.n,down := x.down,m := x.m,k := x.k,i := x.i,a := x.a,c_lo := x.c_lo,c_len := x.c_len,c_cap := x.c_cap,ei := x.ei,o := x.o,l := x.l,nn := x.nn,dd := x.dd }) fun y => some (Sum.inl { n7 := y.n7,i7 := IntKind.i64.wrap (y.i7 + 1),n := y.n,down := y.down,m := y.m,k := y.k,i := y.i,a := y.a,c_lo := y.c_lo,c_len := y.c_len,c_cap := y.c_cap,ei := y.ei,o := y.o,l := y.l,nn := y.nn,dd := y.dd })
else some (Sum.inr { n := x.n,down := x.down,m := x.m,k := x.k,i := x.i,a := x.a,c_lo := x.c_lo,c_len := x.c_len,c_cap := x.c_cap })
theorem i1_s0_eq (x : i1_p0X) : exec EI1_1 21 (C77.bodyAt 0) 1 (i1_p0.R x) (i1_p0.H x) (roundK 0 i1_p0 (.exit 0) i1_q0) = i1_s0 x := by kernel_rfl
noncomputable def i1_l0 : LoopS := mkLoop 0 i1_p0 (.exit 0) i1_q0 i1_s0
theorem ti1_l0 : topL (C77.bodyAt 0) 1 = [] := by kernel_rfl
theorem i1_l0_ok {y : YI} (hy : Rnd R1.rA R1.rB R1.rP 70 y) : LoopOkS Tryd.prog 21 none 0 (C77.bodyAt 0) i1_l0 (some y) := mkLoop_ok mixed (env_ok ty_ok cl_ok _) (by trivial) (fun _ => rfl) (fun _ => rfl) (ti1_l0 ▸ AllL.nil) i1_s0_eq (hyk := yi1_1 hy)
noncomputable def EI1_0 : Env := ⟨ty,cfOf cl,lpOf [(0,i1_l0)],some (R1.rP,ub1)⟩
theorem yi1_0 {y : YI} (hy : Rnd R1.rA R1.rB R1.rP 70 y) : YldOk Tryd.prog 0 EI1_0 (some y) := yld_ok rfl (by kernel_rfl) (by kernel_rfl) ub1_ok hy
structure p1X where
 n : Int
 down : Bool
 m : List ((Int) × List ((Bool) × Int))
 k : Int
 i : Int
 a : List ((Int) × (Int) × (Bool) × Int)
 c_lo : Nat
 c_len : Nat
 c_cap : Nat
 ei : Int
 o : Int
 l : List ((Bool) × Int)
 nn : Int
 dd : Bool
def p1 : Pt p1X where
 own := []
 t := ⟨[(1,.c (.it .i64)),(2,.c (.bo)),(9,.c (.ptr 1 0)),(32,.c (.arr (.pair (.int .u8) (.sl (.pair .bool (.int .u8)))))),(33,.c (.it .i64)),(34,.c (.it .i64)),(10,.c (.ptr 2 0)),(11,.c (.ptr 3 0)),(51,.c (.clo 77 [⟨4,0,0⟩,⟨5,0,0⟩]))],[.arr (.pair (.int .i64) (.pair (.int .i64) (.pair .bool (.int .u8)))) 0,.st [.slc 0 0 4] 1 0,.st [.it .i64] 1 0,.st [.it .u8,.arr (.pair .bool (.int .u8))] 1 0,.st [.it .i64] 1 0,.st [.bo] 1 0]⟩
 to := fun v => ⟨v.1.1,v.1.2.1,v.1.2.2.2.1,v.1.2.2.2.2.1,v.1.2.2.2.2.2.1,v.2.1,v.2.2.1.1.1,v.2.2.1.1.2.1,v.2.2.1.1.2.2,v.2.2.2.1.1,v.2.2.2.2.1.1,v.2.2.2.2.1.2.1,v.2.2.2.2.2.1.1,v.2.2.2.2.2.2.1.1⟩
 fr := fun x => ((x.n,(x.down,((),(x.m,(x.k,(x.i,((),((),((),()))))))))),(x.a,(((x.c_lo,x.c_len,x.c_cap),()),((x.ei,()),((x.o,(x.l,())),((x.nn,()),((x.dd,()),())))))))
structure q1X where
 n : Int
 down : Bool
 m : List ((Int) × List ((Bool) × Int))
 k : Int
 i : Int
 a : List ((Int) × (Int) × (Bool) × Int)
 c_lo : Nat
 c_len : Nat
 c_cap : Nat
def q1 : Pt q1X where
 own := []
 t := ⟨[(1,.c (.it .i64)),(2,.c (.bo)),(9,.c (.ptr 1 0)),(32,.c (.arr (.pair (.int .u8) (.sl (.pair .bool (.int .u8)))))),(33,.c (.it .i64)),(34,.c (.it .i64))],[.arr (.pair (.int .i64) (.pair (.int .i64) (.pair .bool (.int .u8)))) 0,.st [.slc 0 0 4] 1 0]⟩
 to := fun v => ⟨v.1.1,v.1.2.1,v.1.2.2.2.1,v.1.2.2.2.2.1,v.1.2.2.2.2.2.1,v.2.1,v.2.2.1.1.1,v.2.2.1.1.2.1,v.2.2.1.1.2.2⟩
 fr := fun x => ((x.n,(x.down,((),(x.m,(x.k,(x.i,())))))),(x.a,(((x.c_lo,x.c_len,x.c_cap),()),())))
noncomputable def s1 (x : p1X) : Option q1X := bindO (iter i1_s0 { n7 := x.nn,i7 := 0,n := x.n,down := x.down,m := x.m,k := x.k,i := x.i,a := x.a,c_lo := x.c_lo,c_len := x.c_len,c_cap := x.c_cap,ei := x.ei,o := x.o,l := x.l,nn := x.nn,dd := x.dd }) fun y => some { n := y.n,down := y.down,m := y.m,k := y.k,i := y.i,a := y.a,c_lo := y.c_lo,c_len := y.c_len,c_cap := y.c_cap }
theorem s1_eq (x : p1X) : rngRun EI1_0 21 C77 77 R1.rF (p1.R x) (p1.H x) (leaveK (endK 0 q1)) = s1 x := by kernel_rfl
noncomputable def l1 : LoopS := mkUnit 0 p1 q1 s1
theorem ti1 : topL C77 0 = [(0,C77.bodyAt 0)] := by kernel_rfl
theorem l1_ok : RngOkS Tryd.prog 70 0 R1.rF R1.rP R1.rA R1.rB l1 := mkRng_ok mixed (env_ok ty_ok cl_ok _) (fun hy => yi1_0 hy) s77 (by kernel_rfl) (fun hy => ti1 ▸ (AllL.cons rfl (i1_l0_ok hy) AllL.nil)) (fun _ => rfl) (fun _ => rfl) s1_eq
noncomputable def E1 : Env := ⟨ty,cfOf cl,lpOf [(1,l1)],none⟩
theorem u0 : rngs (C20.bodyAt 0) 1 = [(1,R1)] := by kernel_rfl
structure p0X where
 n : Int
 down : Bool
 m : List ((Int) × List ((Bool) × Int))
 k : Int
 i : Int
 a : List ((Int) × (Int) × (Bool) × Int)
 c_lo : Nat
 c_len : Nat
 c_cap : Nat
def p0 : Pt p0X where
 own := []
 t := ⟨[(1,.c (.it .i64)),(2,.c (.bo)),(9,.c (.ptr 1 0)),(32,.c (.arr (.pair (.int .u8) (.sl (.pair .bool (.int .u8)))))),(33,.c (.it .i64)),(34,.c (.it .i64))],[.arr (.pair (.int .i64) (.pair (.int .i64) (.pair .bool (.int .u8)))) 0,.st [.slc 0 0 4] 1 0]⟩
 to := fun v => ⟨v.1.1,v.1.2.1,v.1.2.2.2.1,v.1.2.2.2.2.1,v.1.2.2.2.2.2.1,v.2.1,v.2.2.1.1.1,v.2.2.1.1.2.1,v.2.2.1.1.2.2⟩
 fr := fun x => ((x.n,(x.down,((),(x.m,(x.k,(x.i,())))))),(x.a,(((x.c_lo,x.c_len,x.c_cap),()),())))
structure q0X where
 a : List ((Int) × (Int) × (Bool) × Int)
 c_lo : Nat
 c_len : Nat
 c_cap : Nat
def q0 : Pt q0X where
 own := []
 t := ⟨[(9,.c (.ptr 1 0))],[.arr (.pair (.int .i64) (.pair (.int .i64) (.pair .bool (.int .u8)))) 0,.st [.slc 0 0 4] 1 0]⟩
 to := fun v => ⟨v.2.1,v.2.2.1.1.1,v.2.2.1.1.2.1,v.2.2.1.1.2.2⟩
 fr := fun x => (((),()),(x.a,(((x.c_lo,x.c_len,x.c_cap),()),())))
noncomputable def s0 (x : p0X) : Option (p0X ⊕ q0X) := bif decide (x.i < x.k) then bif inR x.i x.m.length then bindO (M44.m { n := x.n,down := bif (x.m[x.i.toNat]?.getD (0,[])).fst == 2 then true else bif (x.m[x.i.toNat]?.getD (0,[])).fst == 0 then x.down else false }) fun y => bindO (s1 { n := x.n,down := x.down,m := x.m,k := x.k,i := x.i,a := x.a,c_lo := x.c_lo,c_len := x.c_len,c_cap := x.c_cap,ei := x.i,o := (x.m[x.i.toNat]?.getD (0,[])).fst,l := (x.m[x.i.toNat]?.getD (0,[])).snd,nn := y.fst,dd := y.snd }) fun y => some (Sum.inl { n := y.n,down := y.down,m := y.m,k := y.k,i := IntKind.i64.wrap (y.i + 1),a := y.a,c_lo := y.c_lo,c_len := y.c_len,c_cap := y.c_cap }) else none
else some (Sum.inr { a := x.a,c_lo := x.c_lo,c_len := x.c_len,c_cap := x.c_cap })
theorem s0_eq (x : p0X) : exec E1 70 (C20.bodyAt 0) 1 (p0.R x) (p0.H x) (roundK 0 p0 (.exit 1) q0) = s0 x := by kernel_rfl
noncomputable def l0 : LoopS := mkLoop 0 p0 (.exit 1) q0 s0
theorem tl0 : topL (C20.bodyAt 0) 1 = [] := by kernel_rfl
theorem l0_ok  : LoopOkS Tryd.prog 70 none 0 (C20.bodyAt 0) l0 := mkLoop_ok mixed (env_ok ty_ok cl_ok _) (by trivial) (fun _ => rfl) (fun _ => rfl) (tl0 ▸ AllL.nil) s0_eq (hg := RgOk.of rfl (u0 ▸ (AllR.cons rfl rfl l1_ok AllR.nil)))
noncomputable def E0 : Env := ⟨ty,cfOf cl,lpOf [(0,l0),(1,l1)],none⟩
noncomputable def m (x : gX) : Option fY := bindO (M19.m { m := x.m }) fun y => bif y != 0 then some ([],y) else bif decide (x.n < 1) then some ([],1) else bif decide (x.n > 1024) then some ([],3) else bindO (M23.m { m := x.m }) fun y => bif decide (0 ≤ IntKind.i64.wrap (x.n * y)) && decide (IntKind.i64.wrap (x.n * y) * (↑24 : Int) ≤ 281474976710656) && decide (IntKind.i64.wrap (x.n * y) ≤ 9223372036854775807) then bindO (iter s0 { n := x.n,down := x.down,m := x.m,k := (↑x.m.length : Int),i := 0,a := List.replicate (IntKind.i64.wrap (x.n * y)).toNat (0,0,false,0),c_lo := 0,c_len := 0,c_cap := (IntKind.i64.wrap (x.n * y)).toNat }) fun y => bif leB (y.c_lo + y.c_len) y.a.length && true && true && true then some (List.take y.c_len (List.drop y.c_lo y.a),0) else none else none
theorem m_eq (x : gX) : exec E0 70 C20 0 (initS 0 (g.A x)) (g.H x) (finish 0 ty [.tmp 6,.tmp 7] f) = m x := by kernel_rfl
theorem tl : topL C20 0 = [(0,C20.bodyAt 0)] := by kernel_rfl
theorem known : Known Tryd.prog 20 g f m :=
 mk_known mixed (env_ok ty_ok cl_ok _) s20 rfl rfl tl (AllL.cons rfl l0_ok AllL.nil) (fun _ _ => ⟨rfl,rfl⟩) (fun _ _ => ⟨rfl,rfl⟩) m_eq
noncomputable def con : Con := conT g f m default
theorem con_ok : ConOk Tryd.prog 20 con := conT_ok known (fun _ => rfl) rfl
end M20
end Go.Proofs.YtcnlccpihknehaaDoor
