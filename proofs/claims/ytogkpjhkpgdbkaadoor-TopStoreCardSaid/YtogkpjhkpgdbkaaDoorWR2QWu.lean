/-
  What the proof stands on.
-/
import Derived.Test.YtogkpjhkpgdbkaaDoorWR2QWS9
set_option linter.all false
namespace Go.Proofs.YtogkpjhkpgdbkaaDoor
open Go.Abs
set_option maxRecDepth 100000
namespace M15
structure gX where
 v : Int
def g : Sg gX where
 vs := [.c (.it .u8)]
 h := []
 to := fun a b => ⟨a.1⟩
 fa := fun x => (x.v,())
 fh := fun x => ()
abbrev fY := Bool
def f : Ft fY where
 ord := none
 sh := .c (.bo)
 h := []
 to := fun a b => (a)
 fv := fun y => y
 fh := fun y => ()
def cl : List (FuncId × Con) := []
theorem cl_ok : allCon Tryd.prog cl := trivial
def E0 : Env := ⟨ty,cfOf cl,fun _ => none,none⟩
def m (x : gX) : Option fY := some (decide (x.v ≤ 1))
theorem m_eq (x : gX) : exec E0 5 C15 0 (initS 0 (g.A x)) (g.H x) (finish 0 ty [.tmp 2] f) = m x := by kernel_rfl
theorem tl : topL C15 0 = [] := by kernel_rfl
theorem known : Known Tryd.prog 15 g f m :=
 mk_known mixed (env_ok ty_ok cl_ok _) s15 rfl rfl tl AllL.nil (fun _ _ => ⟨rfl,rfl⟩) (fun _ _ => ⟨rfl,rfl⟩) m_eq
def con : Con := conT g f m default
theorem con_ok : ConOk Tryd.prog 15 con := conT_ok known (fun _ => rfl) rfl
end M15
namespace M14
structure gX where
 v : Int
def g : Sg gX where
 vs := [.c (.it .u8)]
 h := []
 to := fun a b => ⟨a.1⟩
 fa := fun x => (x.v,())
 fh := fun x => ()
abbrev fY := Bool
def f : Ft fY where
 ord := none
 sh := .c (.bo)
 h := []
 to := fun a b => (a)
 fv := fun y => y
 fh := fun y => ()
def cl : List (FuncId × Con) := [(15,M15.con)]
theorem cl_ok : allCon Tryd.prog cl := ⟨M15.con_ok,trivial⟩
def E0 : Env := ⟨ty,cfOf cl,fun _ => none,none⟩
def m (x : gX) : Option fY := bindO (M15.m { v := x.v }) fun y => some !y
theorem m_eq (x : gX) : exec E0 6 C14 0 (initS 0 (g.A x)) (g.H x) (finish 0 ty [.tmp 2] f) = m x := by kernel_rfl
theorem tl : topL C14 0 = [] := by kernel_rfl
theorem known : Known Tryd.prog 14 g f m :=
 mk_known mixed (env_ok ty_ok cl_ok _) s14 rfl rfl tl AllL.nil (fun _ _ => ⟨rfl,rfl⟩) (fun _ _ => ⟨rfl,rfl⟩) m_eq
def con : Con := conT g f m default
theorem con_ok : ConOk Tryd.prog 14 con := conT_ok known (fun _ => rfl) rfl
end M14
namespace M23
structure gX where
 v : Int
def g : Sg gX where
 vs := [.c (.it .u8)]
 h := []
 to := fun a b => ⟨a.1⟩
 fa := fun x => (x.v,())
 fh := fun x => ()
abbrev fY := Bool
def f : Ft fY where
 ord := none
 sh := .c (.bo)
 h := []
 to := fun a b => (a)
 fv := fun y => y
 fh := fun y => ()
def cl : List (FuncId × Con) := []
theorem cl_ok : allCon Tryd.prog cl := trivial
def E0 : Env := ⟨ty,cfOf cl,fun _ => none,none⟩
def m (x : gX) : Option fY := some (decide (x.v ≤ 1))
theorem m_eq (x : gX) : exec E0 5 C23 0 (initS 0 (g.A x)) (g.H x) (finish 0 ty [.tmp 2] f) = m x := by kernel_rfl
theorem tl : topL C23 0 = [] := by kernel_rfl
theorem known : Known Tryd.prog 23 g f m :=
 mk_known mixed (env_ok ty_ok cl_ok _) s23 rfl rfl tl AllL.nil (fun _ _ => ⟨rfl,rfl⟩) (fun _ _ => ⟨rfl,rfl⟩) m_eq
def con : Con := conT g f m default
theorem con_ok : ConOk Tryd.prog 23 con := conT_ok known (fun _ => rfl) rfl
end M23
namespace M22
structure gX where
 v : Int
def g : Sg gX where
 vs := [.c (.it .u8)]
 h := []
 to := fun a b => ⟨a.1⟩
 fa := fun x => (x.v,())
 fh := fun x => ()
abbrev fY := Bool
def f : Ft fY where
 ord := none
 sh := .c (.bo)
 h := []
 to := fun a b => (a)
 fv := fun y => y
 fh := fun y => ()
def cl : List (FuncId × Con) := [(23,M23.con)]
theorem cl_ok : allCon Tryd.prog cl := ⟨M23.con_ok,trivial⟩
def E0 : Env := ⟨ty,cfOf cl,fun _ => none,none⟩
def m (x : gX) : Option fY := bindO (M23.m { v := x.v }) fun y => some !y
theorem m_eq (x : gX) : exec E0 6 C22 0 (initS 0 (g.A x)) (g.H x) (finish 0 ty [.tmp 2] f) = m x := by kernel_rfl
theorem tl : topL C22 0 = [] := by kernel_rfl
theorem known : Known Tryd.prog 22 g f m :=
 mk_known mixed (env_ok ty_ok cl_ok _) s22 rfl rfl tl AllL.nil (fun _ _ => ⟨rfl,rfl⟩) (fun _ _ => ⟨rfl,rfl⟩) m_eq
def con : Con := conT g f m default
theorem con_ok : ConOk Tryd.prog 22 con := conT_ok known (fun _ => rfl) rfl
end M22
namespace M38a
structure gX where
 s : List (Int)
def g : Sg gX where
 vs := [.c (.arr (.int .u8)),.c (.fn 14)]
 h := []
 to := fun a b => ⟨a.1⟩
 fa := fun x => (x.s,((),()))
 fh := fun x => ()
abbrev fY := Int
def f : Ft fY where
 ord := none
 sh := .c (.it .i64)
 h := []
 to := fun a b => (a)
 fv := fun y => y
 fh := fun y => ()
def cl : List (FuncId × Con) := [(14,M14.con)]
theorem cl_ok : allCon Tryd.prog cl := ⟨M14.con_ok,trivial⟩
def E1 : Env := ⟨ty,cfOf cl,fun _ => none,none⟩
structure p0X where
 s : List (Int)
 n : Int
 i : Int
def p0 : Pt p0X where
 own := []
 t := ⟨[(0,.c (.arr (.int .u8))),(1,.c (.fn 14)),(7,.c (.it .i64)),(8,.c (.it .i64))],[]⟩
 to := fun v => ⟨v.1.1,v.1.2.2.1,v.1.2.2.2.1⟩
 fr := fun x => ((x.s,((),(x.n,(x.i,())))),())
abbrev q0X := Unit
def q0 : Pt q0X where
 own := []
 t := ⟨[],[]⟩
 to := fun v => ()
 fr := fun x => ((),())
structure z0X where
 r : Int
def z0 : Pt z0X where
 own := []
 t := ⟨[(4,.c (.it .i64))],[]⟩
 to := fun v => ⟨v.1.1⟩
 fr := fun x => ((x.r,()),())
def s0 (x : p0X) : Option (p0X ⊕ (q0X ⊕ z0X)) := bif decide (x.i < x.n) then bif inR x.i x.s.length then bindO (M14.m { v := x.s[x.i.toNat]?.getD 0 }) fun y => bif y then some (Sum.inr (Sum.inr { r := x.i })) else some (Sum.inl { s := x.s,n := x.n,i := IntKind.i64.wrap (x.i + 1) }) else none
else some (Sum.inr (Sum.inl PUnit.unit))
theorem s0_eq (x : p0X) : exec E1 19 (C38.bodyAt 0) 1 (p0.R x) (p0.H x) (roundK2 0 p0 (.exit 0) q0 .ret z0) = s0 x := by kernel_rfl
noncomputable def l0 : LoopS := mkLoop2 0 p0 (.exit 0) q0 .ret z0 s0
theorem tl0 : topL (C38.bodyAt 0) 1 = [] := by kernel_rfl
theorem l0_ok  : LoopOkS Tryd.prog 19 none 0 (C38.bodyAt 0) l0 := mkLoop2_ok mixed (env_ok ty_ok cl_ok _) (by trivial) (by trivial) (fun _ => rfl) (fun _ => rfl) (fun _ => rfl) (tl0 ▸ AllL.nil) s0_eq
noncomputable def E0 : Env := ⟨ty,cfOf cl,lpOf [(0,l0)],none⟩
noncomputable def m (x : gX) : Option fY := bindO (iter s0 { s := x.s,n := (↑x.s.length : Int),i := 0 }) fun s => sumC s (fun y => some (-1)) fun z => some z.r
theorem m_eq (x : gX) : exec E0 19 C38 0 (initS 0 (g.A x)) (g.H x) (finish 0 ty [.tmp 4] f) = m x := by kernel_rfl
theorem tl : topL C38 0 = [(0,C38.bodyAt 0)] := by kernel_rfl
theorem known : Known Tryd.prog 38 g f m :=
 mk_known mixed (env_ok ty_ok cl_ok _) s38 rfl rfl tl (AllL.cons rfl l0_ok AllL.nil) (fun _ _ => ⟨rfl,rfl⟩) (fun _ _ => ⟨rfl,rfl⟩) m_eq
noncomputable def con : Con := conT g f m default
theorem con_ok : ConOk Tryd.prog 38 con := conT_ok known (fun _ => rfl) rfl
end M38a
namespace M13a
structure gX where
 s : List (Int)
def g : Sg gX where
 vs := [.c (.arr (.int .u8)),.c (.fn 14)]
 h := []
 to := fun a b => ⟨a.1⟩
 fa := fun x => (x.s,((),()))
 fh := fun x => ()
abbrev fY := Bool
def f : Ft fY where
 ord := none
 sh := .c (.bo)
 h := []
 to := fun a b => (a)
 fv := fun y => y
 fh := fun y => ()
noncomputable def cl : List (FuncId × Con) := [(38,M38a.con)]
theorem cl_ok : allCon Tryd.prog cl := ⟨M38a.con_ok,trivial⟩
noncomputable def E0 : Env := ⟨ty,cfOf cl,fun _ => none,none⟩
noncomputable def m (x : gX) : Option fY := bindO (M38a.m { s := x.s }) fun y => some (decide (y ≥ 0))
theorem m_eq (x : gX) : exec E0 9 C13 0 (initS 0 (g.A x)) (g.H x) (finish 0 ty [.tmp 4] f) = m x := by kernel_rfl
theorem tl : topL C13 0 = [] := by kernel_rfl
theorem known : Known Tryd.prog 13 g f m :=
 mk_known mixed (env_ok ty_ok cl_ok _) s13 rfl rfl tl AllL.nil (fun _ _ => ⟨rfl,rfl⟩) (fun _ _ => ⟨rfl,rfl⟩) m_eq
noncomputable def con : Con := conT g f m default
theorem con_ok : ConOk Tryd.prog 13 con := conT_ok known (fun _ => rfl) rfl
end M13a
namespace M38b
structure gX where
 s : List (Int)
def g : Sg gX where
 vs := [.c (.arr (.int .u8)),.c (.fn 22)]
 h := []
 to := fun a b => ⟨a.1⟩
 fa := fun x => (x.s,((),()))
 fh := fun x => ()
abbrev fY := Int
def f : Ft fY where
 ord := none
 sh := .c (.it .i64)
 h := []
 to := fun a b => (a)
 fv := fun y => y
 fh := fun y => ()
def cl : List (FuncId × Con) := [(22,M22.con)]
theorem cl_ok : allCon Tryd.prog cl := ⟨M22.con_ok,trivial⟩
def E1 : Env := ⟨ty,cfOf cl,fun _ => none,none⟩
structure p0X where
 s : List (Int)
 n : Int
 i : Int
def p0 : Pt p0X where
 own := []
 t := ⟨[(0,.c (.arr (.int .u8))),(1,.c (.fn 22)),(7,.c (.it .i64)),(8,.c (.it .i64))],[]⟩
 to := fun v => ⟨v.1.1,v.1.2.2.1,v.1.2.2.2.1⟩
 fr := fun x => ((x.s,((),(x.n,(x.i,())))),())
abbrev q0X := Unit
def q0 : Pt q0X where
 own := []
 t := ⟨[],[]⟩
 to := fun v => ()
 fr := fun x => ((),())
structure z0X where
 r : Int
def z0 : Pt z0X where
 own := []
 t := ⟨[(4,.c (.it .i64))],[]⟩
 to := fun v => ⟨v.1.1⟩
 fr := fun x => ((x.r,()),())
def s0 (x : p0X) : Option (p0X ⊕ (q0X ⊕ z0X)) := bif decide (x.i < x.n) then bif inR x.i x.s.length then bindO (M22.m { v := x.s[x.i.toNat]?.getD 0 }) fun y => bif y then some (Sum.inr (Sum.inr { r := x.i })) else some (Sum.inl { s := x.s,n := x.n,i := IntKind.i64.wrap (x.i + 1) }) else none
else some (Sum.inr (Sum.inl PUnit.unit))
theorem s0_eq (x : p0X) : exec E1 19 (C38.bodyAt 0) 1 (p0.R x) (p0.H x) (roundK2 0 p0 (.exit 0) q0 .ret z0) = s0 x := by kernel_rfl
noncomputable def l0 : LoopS := mkLoop2 0 p0 (.exit 0) q0 .ret z0 s0
theorem tl0 : topL (C38.bodyAt 0) 1 = [] := by kernel_rfl
theorem l0_ok  : LoopOkS Tryd.prog 19 none 0 (C38.bodyAt 0) l0 := mkLoop2_ok mixed (env_ok ty_ok cl_ok _) (by trivial) (by trivial) (fun _ => rfl) (fun _ => rfl) (fun _ => rfl) (tl0 ▸ AllL.nil) s0_eq
noncomputable def E0 : Env := ⟨ty,cfOf cl,lpOf [(0,l0)],none⟩
noncomputable def m (x : gX) : Option fY := bindO (iter s0 { s := x.s,n := (↑x.s.length : Int),i := 0 }) fun s => sumC s (fun y => some (-1)) fun z => some z.r
theorem m_eq (x : gX) : exec E0 19 C38 0 (initS 0 (g.A x)) (g.H x) (finish 0 ty [.tmp 4] f) = m x := by kernel_rfl
theorem tl : topL C38 0 = [(0,C38.bodyAt 0)] := by kernel_rfl
theorem known : Known Tryd.prog 38 g f m :=
 mk_known mixed (env_ok ty_ok cl_ok _) s38 rfl rfl tl (AllL.cons rfl l0_ok AllL.nil) (fun _ _ => ⟨rfl,rfl⟩) (fun _ _ => ⟨rfl,rfl⟩) m_eq
noncomputable def con : Con := conT g f m default
theorem con_ok : ConOk Tryd.prog 38 con := conT_ok known (fun _ => rfl) rfl
end M38b
namespace M13b
structure gX where
 s : List (Int)
def g : Sg gX where
 vs := [.c (.arr (.int .u8)),.c (.fn 22)]
 h := []
 to := fun a b => ⟨a.1⟩
 fa := fun x => (x.s,((),()))
 fh := fun x => ()
abbrev fY := Bool
def f : Ft fY where
 ord := none
 sh := .c (.bo)
 h := []
 to := fun a b => (a)
 fv := fun y => y
 fh := fun y => ()
noncomputable def cl : List (FuncId × Con) := [(38,M38b.con)]
theorem cl_ok : allCon Tryd.prog cl := ⟨M38b.con_ok,trivial⟩
noncomputable def E0 : Env := ⟨ty,cfOf cl,fun _ => none,none⟩
noncomputable def m (x : gX) : Option fY := bindO (M38b.m { s := x.s }) fun y => some (decide (y ≥ 0))
theorem m_eq (x : gX) : exec E0 9 C13 0 (initS 0 (g.A x)) (g.H x) (finish 0 ty [.tmp 4] f) = m x := by kernel_rfl
theorem tl : topL C13 0 = [] := by kernel_rfl
theorem known : Known Tryd.prog 13 g f m :=
 mk_known mixed (env_ok ty_ok cl_ok _) s13 rfl rfl tl AllL.nil (fun _ _ => ⟨rfl,rfl⟩) (fun _ _ => ⟨rfl,rfl⟩) m_eq
noncomputable def con : Con := conT g f m default
theorem con_ok : ConOk Tryd.prog 13 con := conT_ok known (fun _ => rfl) rfl
end M13b
namespace M29
structure gX where
 v : Int
def g : Sg gX where
 vs := [.c (.it .u8)]
 h := []
 to := fun a b => ⟨a.1⟩
 fa := fun x => (x.v,())
 fh := fun x => ()
abbrev fY := Int
def f : Ft fY where
 ord := none
 sh := .c (.it .u8)
 h := []
 to := fun a b => (a)
 fv := fun y => y
 fh := fun y => ()
def cl : List (FuncId × Con) := []
theorem cl_ok : allCon Tryd.prog cl := trivial
def E0 : Env := ⟨ty,cfOf cl,fun _ => none,none⟩
def m (x : gX) : Option fY := some (if 2 < x.v then 2 else x.v)
theorem m_eq (x : gX) : exec E0 5 C29 0 (initS 0 (g.A x)) (g.H x) (finish 0 ty [.tmp 2] f) = m x := by kernel_rfl
theorem tl : topL C29 0 = [] := by kernel_rfl
theorem known : Known Tryd.prog 29 g f m :=
 mk_known mixed (env_ok ty_ok cl_ok _) s29 rfl rfl tl AllL.nil (fun _ _ => ⟨rfl,rfl⟩) (fun _ _ => ⟨rfl,rfl⟩) m_eq
def con : Con := conT g f m default
theorem con_ok : ConOk Tryd.prog 29 con := conT_ok known (fun _ => rfl) rfl
end M29
namespace M26
structure gX where
 a : Int
 b : Int
def g : Sg gX where
 vs := [.c (.it .u8),.c (.it .u8)]
 h := []
 to := fun a b => ⟨a.1,a.2.1⟩
 fa := fun x => (x.a,(x.b,()))
 fh := fun x => ()
abbrev fY := Int
def f : Ft fY where
 ord := none
 sh := .c (.it .u8)
 h := []
 to := fun a b => (a)
 fv := fun y => y
 fh := fun y => ()
def cl : List (FuncId × Con) := []
theorem cl_ok : allCon Tryd.prog cl := trivial
def E0 : Env := ⟨ty,cfOf cl,fun _ => none,none⟩
def m (x : gX) : Option fY := bif x.a != x.b then some 2 else some x.a
theorem m_eq (x : gX) : exec E0 9 C26 0 (initS 0 (g.A x)) (g.H x) (finish 0 ty [.tmp 4] f) = m x := by kernel_rfl
theorem tl : topL C26 0 = [] := by kernel_rfl
theorem known : Known Tryd.prog 26 g f m :=
 mk_known mixed (env_ok ty_ok cl_ok _) s26 rfl rfl tl AllL.nil (fun _ _ => ⟨rfl,rfl⟩) (fun _ _ => ⟨rfl,rfl⟩) m_eq
def con : Con := conT g f m default
theorem con_ok : ConOk Tryd.prog 26 con := conT_ok known (fun _ => rfl) rfl
end M26
namespace M24
structure gX where
 word : List (Int)
 b : Int
def g : Sg gX where
 vs := [.c (.arr (.int .u8)),.c (.it .i64)]
 h := []
 to := fun a b => ⟨a.1,a.2.1⟩
 fa := fun x => (x.word,(x.b,()))
 fh := fun x => ()
abbrev fY := Int
def f : Ft fY where
 ord := none
 sh := .c (.it .u8)
 h := []
 to := fun a b => (a)
 fv := fun y => y
 fh := fun y => ()
def cl : List (FuncId × Con) := [(29,M29.con)]
theorem cl_ok : allCon Tryd.prog cl := ⟨M29.con_ok,trivial⟩
def E0 : Env := ⟨ty,cfOf cl,fun _ => none,none⟩
def m (x : gX) : Option fY := bif decide (x.b ≥ (↑x.word.length : Int)) then some 2 else bif inR x.b x.word.length then bindO (M29.m { v := x.word[x.b.toNat]?.getD 0 }) fun y => some y else none
theorem m_eq (x : gX) : exec E0 14 C24 0 (initS 0 (g.A x)) (g.H x) (finish 0 ty [.tmp 4] f) = m x := by kernel_rfl
theorem tl : topL C24 0 = [] := by kernel_rfl
theorem known : Known Tryd.prog 24 g f m :=
 mk_known mixed (env_ok ty_ok cl_ok _) s24 rfl rfl tl AllL.nil (fun _ _ => ⟨rfl,rfl⟩) (fun _ _ => ⟨rfl,rfl⟩) m_eq
def con : Con := conT g f m default
theorem con_ok : ConOk Tryd.prog 24 con := conT_ok known (fun _ => rfl) rfl
end M24
namespace M25
structure gX where
 i : Int
 addr : List (Int)
def g : Sg gX where
 vs := [.c (.it .i64),.c (.arr (.int .u8))]
 h := []
 to := fun a b => ⟨a.1,a.2.1⟩
 fa := fun x => (x.i,(x.addr,()))
 fh := fun x => ()
abbrev fY := Bool
def f : Ft fY where
 ord := none
 sh := .c (.bo)
 h := []
 to := fun a b => (a)
 fv := fun y => y
 fh := fun y => ()
def cl : List (FuncId × Con) := [(23,M23.con)]
theorem cl_ok : allCon Tryd.prog cl := ⟨M23.con_ok,trivial⟩
def E1 : Env := ⟨ty,cfOf cl,fun _ => none,none⟩
structure p0X where
 i : Int
 addr : List (Int)
 n : Int
 k : Int
def p0 : Pt p0X where
 own := []
 t := ⟨[(0,.c (.it .i64)),(7,.c (.arr (.int .u8))),(8,.c (.it .i64)),(9,.c (.it .i64))],[]⟩
 to := fun v => ⟨v.1.1,v.1.2.1,v.1.2.2.1,v.1.2.2.2.1⟩
 fr := fun x => ((x.i,(x.addr,(x.n,(x.k,())))),())
structure q0X where
 i : Int
def q0 : Pt q0X where
 own := []
 t := ⟨[(0,.c (.it .i64))],[]⟩
 to := fun v => ⟨v.1.1⟩
 fr := fun x => ((x.i,()),())
structure z0X where
 r : Bool
def z0 : Pt z0X where
 own := []
 t := ⟨[(4,.c (.bo))],[]⟩
 to := fun v => ⟨v.1.1⟩
 fr := fun x => ((x.r,()),())
def s0 (x : p0X) : Option (p0X ⊕ (q0X ⊕ z0X)) := bif decide (x.k < x.n) then bif inR x.k x.addr.length then bindO (M23.m { v := x.addr[x.k.toNat]?.getD 0 }) fun y => bif bif y then IntKind.i64.wrap (x.addr[x.k.toNat]?.getD 0) != IntKind.i64.wrap (↑(BitVec.ofInt 64 x.i &&& BitVec.ofInt 64 1).toNat : Int) else false then some (Sum.inr (Sum.inr { r := false })) else some (Sum.inl { i := x.i.fdiv (2 ^ 1),addr := x.addr,n := x.n,k := IntKind.i64.wrap (x.k + 1) }) else none
else some (Sum.inr (Sum.inl { i := x.i }))
theorem s0_eq (x : p0X) : exec E1 27 (C25.bodyAt 0) 1 (p0.R x) (p0.H x) (roundK2 0 p0 (.exit 0) q0 .ret z0) = s0 x := by kernel_rfl
noncomputable def l0 : LoopS := mkLoop2 0 p0 (.exit 0) q0 .ret z0 s0
theorem tl0 : topL (C25.bodyAt 0) 1 = [] := by kernel_rfl
theorem l0_ok  : LoopOkS Tryd.prog 27 none 0 (C25.bodyAt 0) l0 := mkLoop2_ok mixed (env_ok ty_ok cl_ok _) (by trivial) (by trivial) (fun _ => rfl) (fun _ => rfl) (fun _ => rfl) (tl0 ▸ AllL.nil) s0_eq
noncomputable def E0 : Env := ⟨ty,cfOf cl,lpOf [(0,l0)],none⟩
noncomputable def m (x : gX) : Option fY := bindO (iter s0 { i := x.i,addr := x.addr,n := (↑x.addr.length : Int),k := 0 }) fun s => sumC s (fun y => some (y.i == 0)) fun z => some z.r
theorem m_eq (x : gX) : exec E0 27 C25 0 (initS 0 (g.A x)) (g.H x) (finish 0 ty [.tmp 4] f) = m x := by kernel_rfl
theorem tl : topL C25 0 = [(0,C25.bodyAt 0)] := by kernel_rfl
theorem known : Known Tryd.prog 25 g f m :=
 mk_known mixed (env_ok ty_ok cl_ok _) s25 rfl rfl tl (AllL.cons rfl l0_ok AllL.nil) (fun _ _ => ⟨rfl,rfl⟩) (fun _ _ => ⟨rfl,rfl⟩) m_eq
noncomputable def con : Con := conT g f m default
theorem con_ok : ConOk Tryd.prog 25 con := conT_ok known (fun _ => rfl) rfl
end M25
end Go.Proofs.YtogkpjhkpgdbkaaDoor
namespace Go.Proofs.YtogkpjhkpgdbkaaDoor
open Go.Abs
set_option maxRecDepth 100000
namespace M7
structure gX where
 words : List (List (Int))
 addr : List (Int)
 data : List (Int)
 en : Int
def g : Sg gX where
 vs := [.c (.arr (.sl (.int .u8))),.c (.arr (.int .u8)),.c (.arr (.int .u8)),.c (.it .u8)]
 h := []
 to := fun a b => ⟨a.1,a.2.1,a.2.2.1,a.2.2.2.1⟩
 fa := fun x => (x.words,(x.addr,(x.data,(x.en,()))))
 fh := fun x => ()
abbrev fY := List (List (Int))
def f : Ft fY where
 ord := none
 sh := .c (.arr (.sl (.int .u8)))
 h := []
 to := fun a b => (a)
 fv := fun y => y
 fh := fun y => ()
noncomputable def cl : List (FuncId × Con) := [(13,M13b.con),(24,M24.con),(25,M25.con),(26,M26.con)]
theorem cl_ok : allCon Tryd.prog cl := ⟨M13b.con_ok,M24.con_ok,M25.con_ok,M26.con_ok,trivial⟩
noncomputable def E2 : Env := ⟨ty,cfOf cl,fun _ => none,none⟩
structure p1X where
 addr : List (Int)
 data : List (Int)
 en : Int
 sure : Bool
 out_lo : Nat
 out_len : Nat
 out_cap : Nat
 ws : List (List (Int))
 n : Int
 k : Int
 i : Int
 word : List (Int)
 nn : Int
 b : Int
 out : List (List (Int))
 x_lo : Nat
 x_len : Nat
 x_cap : Nat
 out_r : List (List (Int))
 xs : List (Int)
def p1 : Pt p1X where
 own := []
 t := ⟨[(1,.c (.arr (.int .u8))),(2,.c (.arr (.int .u8))),(3,.c (.it .u8)),(9,.c (.bo)),(10,.c (.slc 0 0 1)),(26,.c (.arr (.sl (.int .u8)))),(27,.c (.it .i64)),(28,.c (.it .i64)),(11,.c (.it .i64)),(12,.c (.arr (.int .u8))),(49,.c (.it .i64)),(50,.c (.it .i64))],[.opn (.sl (.int .u8)) [.slc 1 0 1] 0,.arr (.int .u8) 0]⟩
 to := fun v => ⟨v.1.1,v.1.2.1,v.1.2.2.1,v.1.2.2.2.1,v.1.2.2.2.2.1.1,v.1.2.2.2.2.1.2.1,v.1.2.2.2.2.1.2.2,v.1.2.2.2.2.2.1,v.1.2.2.2.2.2.2.1,v.1.2.2.2.2.2.2.2.1,v.1.2.2.2.2.2.2.2.2.1,v.1.2.2.2.2.2.2.2.2.2.1,v.1.2.2.2.2.2.2.2.2.2.2.1,v.1.2.2.2.2.2.2.2.2.2.2.2.1,v.2.1.1,v.2.1.2.1.1.1,v.2.1.2.1.1.2.1,v.2.1.2.1.1.2.2,v.2.1.2.2,v.2.2.1⟩
 fr := fun x => ((x.addr,(x.data,(x.en,(x.sure,((x.out_lo,x.out_len,x.out_cap),(x.ws,(x.n,(x.k,(x.i,(x.word,(x.nn,(x.b,())))))))))))),((x.out,((x.x_lo,x.x_len,x.x_cap),()),x.out_r),(x.xs,())))
structure q1X where
 addr : List (Int)
 data : List (Int)
 en : Int
 sure : Bool
 out_lo : Nat
 out_len : Nat
 out_cap : Nat
 ws : List (List (Int))
 n : Int
 k : Int
 out : List (List (Int))
 x_lo : Nat
 x_len : Nat
 x_cap : Nat
 out_r : List (List (Int))
 xs : List (Int)
def q1 : Pt q1X where
 own := []
 t := ⟨[(1,.c (.arr (.int .u8))),(2,.c (.arr (.int .u8))),(3,.c (.it .u8)),(9,.c (.bo)),(10,.c (.slc 0 0 1)),(26,.c (.arr (.sl (.int .u8)))),(27,.c (.it .i64)),(28,.c (.it .i64))],[.opn (.sl (.int .u8)) [.slc 1 0 1] 0,.arr (.int .u8) 0]⟩
 to := fun v => ⟨v.1.1,v.1.2.1,v.1.2.2.1,v.1.2.2.2.1,v.1.2.2.2.2.1.1,v.1.2.2.2.2.1.2.1,v.1.2.2.2.2.1.2.2,v.1.2.2.2.2.2.1,v.1.2.2.2.2.2.2.1,v.1.2.2.2.2.2.2.2.1,v.2.1.1,v.2.1.2.1.1.1,v.2.1.2.1.1.2.1,v.2.1.2.1.1.2.2,v.2.1.2.2,v.2.2.1⟩
 fr := fun x => ((x.addr,(x.data,(x.en,(x.sure,((x.out_lo,x.out_len,x.out_cap),(x.ws,(x.n,(x.k,())))))))),((x.out,((x.x_lo,x.x_len,x.x_cap),()),x.out_r),(x.xs,())))
noncomputable def s1 (x : p1X) : Option (p1X ⊕ q1X) := bif decide (x.b < x.nn) then bindO (M24.m { word := x.word,b := x.b }) fun y => bindO (M24.m { word := x.data,b := x.b }) fun y_1 => bindO (bif !x.en == 0 then M25.m { i := x.i,addr := x.addr } else some false) fun y_2 => bif bif x.en == 0 then true else !y_2 then bif inR x.i x.out_len then bif eqN (x.out_lo + x.i.toNat) x.out.length then bif inR x.b x.x_len then bif decide (x.x_lo + x.b.toNat < x.xs.length) then some (Sum.inl { addr := x.addr,data := x.data,en := x.en,sure := x.sure,out_lo := x.out_lo,out_len := x.out_len,out_cap := x.out_cap,ws := x.ws,n := x.n,k := x.k,i := x.i,word := x.word,nn := x.nn,b := IntKind.i64.wrap (x.b + 1),out := x.out,x_lo := x.x_lo,x_len := x.x_len,x_cap := x.x_cap,out_r := x.out_r,xs := x.xs.set (x.x_lo + x.b.toNat) y }) else none else none else none else none else bif x.sure then bif inR x.i x.out_len then bif eqN (x.out_lo + x.i.toNat) x.out.length then bif inR x.b x.x_len then bif decide (x.x_lo + x.b.toNat < x.xs.length) then some (Sum.inl { addr := x.addr,data := x.data,en := x.en,sure := x.sure,out_lo := x.out_lo,out_len := x.out_len,out_cap := x.out_cap,ws := x.ws,n := x.n,k := x.k,i := x.i,word := x.word,nn := x.nn,b := IntKind.i64.wrap (x.b + 1),out := x.out,x_lo := x.x_lo,x_len := x.x_len,x_cap := x.x_cap,out_r := x.out_r,xs := x.xs.set (x.x_lo + x.b.toNat) y_1 }) else none else none else none else none else bif inR x.i x.out_len then bif eqN (x.out_lo + x.i.toNat) x.out.length then bindO (M26.m { a := y,b := y_1 }) fun y => bif inR x.b x.x_len then bif decide (x.x_lo + x.b.toNat < x.xs.length) then some (Sum.inl { addr := x.addr,data := x.data,en := x.en,sure := x.sure,out_lo := x.out_lo,out_len := x.out_len,out_cap := x.out_cap,ws := x.ws,n := x.n,k := x.k,i := x.i,word := x.word,nn := x.nn,b := IntKind.i64.wrap (x.b + 1),out := x.out,x_lo := x.x_lo,x_len := x.x_len,x_cap := x.x_cap,out_r := x.out_r,xs := x.xs.set (x.x_lo + x.b.toNat) y }) else none else none else none else none
else
 some
  (Sum.inr
   {addr := x.addr,data := x.data,en := x.en,sure := x.sure,out_lo := x.out_lo,out_len := x.out_len,out_cap := x.out_cap,ws := x.ws,n := x.n,k := x.k,out := x.out,
    x_lo := x.x_lo,x_len := x.x_len,x_cap := x.x_cap,out_r := x.out_r,xs := x.xs })
theorem s1_eq (x : p1X) : exec E2 96 (C7.bodyAt 1) 2 (p1.R x) (p1.H x) (roundK 0 p1 (.exit 2) q1) = s1 x := by kernel_rfl
noncomputable def l1 : LoopS := mkLoop 0 p1 (.exit 2) q1 s1
theorem tl1 : topL (C7.bodyAt 1) 2 = [] := by kernel_rfl
theorem l1_ok  : LoopOkS Tryd.prog 96 none 0 (C7.bodyAt 1) l1 := mkLoop_ok mixed (env_ok ty_ok cl_ok _) (by trivial) (fun _ => rfl) (fun _ => rfl) (tl1 ▸ AllL.nil) s1_eq
noncomputable def E1 : Env := ⟨ty,cfOf cl,lpOf [(1,l1)],none⟩
structure p0X where
 addr : List (Int)
 data : List (Int)
 en : Int
 sure : Bool
 out_lo : Nat
 out_len : Nat
 out_cap : Nat
 ws : List (List (Int))
 n : Int
 k : Int
 out : List (List (Int))
def p0 : Pt p0X where
 own := []
 t := ⟨[(1,.c (.arr (.int .u8))),(2,.c (.arr (.int .u8))),(3,.c (.it .u8)),(9,.c (.bo)),(10,.c (.slc 0 0 1)),(26,.c (.arr (.sl (.int .u8)))),(27,.c (.it .i64)),(28,.c (.it .i64))],[.arr (.sl (.int .u8)) 0]⟩
 to := fun v => ⟨v.1.1,v.1.2.1,v.1.2.2.1,v.1.2.2.2.1,v.1.2.2.2.2.1.1,v.1.2.2.2.2.1.2.1,v.1.2.2.2.2.1.2.2,v.1.2.2.2.2.2.1,v.1.2.2.2.2.2.2.1,v.1.2.2.2.2.2.2.2.1,v.2.1⟩
 fr := fun x => ((x.addr,(x.data,(x.en,(x.sure,((x.out_lo,x.out_len,x.out_cap),(x.ws,(x.n,(x.k,())))))))),(x.out,()))
structure q0X where
 out_lo : Nat
 out_len : Nat
 out_cap : Nat
 out : List (List (Int))
def q0 : Pt q0X where
 own := []
 t := ⟨[(10,.c (.slc 0 0 1))],[.arr (.sl (.int .u8)) 0]⟩
 to := fun v => ⟨v.1.1.1,v.1.1.2.1,v.1.1.2.2,v.2.1⟩
 fr := fun x => (((x.out_lo,x.out_len,x.out_cap),()),(x.out,()))
noncomputable def s0 (x : p0X) : Option (p0X ⊕ q0X) := bif decide (x.k < x.n) then bif inR x.k x.ws.length then bif decide (0 ≤ (↑(List.length (x.ws[x.k.toNat]?.getD [])) : Int)) && decide ((↑(List.length (x.ws[x.k.toNat]?.getD [])) : Int) ≤ (↑(List.length (x.ws[x.k.toNat]?.getD [])) : Int)) && decide ((↑(List.length (x.ws[x.k.toNat]?.getD [])) : Int) * (↑1 : Int) ≤ 281474976710656) && decide ((↑(List.length (x.ws[x.k.toNat]?.getD [])) : Int) ≤ 9223372036854775807) then bif inR x.k x.out_len then bif decide (x.out_lo + x.k.toNat < x.out.length) then bif inR x.k x.out_len then bif eqN (x.out_lo + x.k.toNat) (List.take (x.out_lo + x.k.toNat) x.out).length then bif leB (0 + (↑(List.length (x.ws[x.k.toNat]?.getD [])) : Int).toNat) (List.replicate (↑(List.length (x.ws[x.k.toNat]?.getD [])) : Int).toNat (0 : Int)).length then bif inR x.k x.out_len then bif eqN (x.out_lo + x.k.toNat) (List.take (x.out_lo + x.k.toNat) x.out).length then bindO (iter s1 { addr := x.addr,data := x.data,en := x.en,sure := x.sure,out_lo := x.out_lo,out_len := x.out_len,out_cap := x.out_cap,ws := x.ws,n := x.n,k := x.k,i := x.k,word := x.ws[x.k.toNat]?.getD [],nn := (↑(↑(List.length (x.ws[x.k.toNat]?.getD [])) : Int).toNat : Int),b := 0,out := List.take (x.out_lo + x.k.toNat) x.out,x_lo := 0,x_len := (↑(List.length (x.ws[x.k.toNat]?.getD [])) : Int).toNat,x_cap := (↑(List.length (x.ws[x.k.toNat]?.getD [])) : Int).toNat,out_r := List.drop (x.out_lo + x.k.toNat + 1) x.out,xs := List.take 0 (List.replicate (↑(List.length (x.ws[x.k.toNat]?.getD [])) : Int).toNat (0 : Int)) ++ List.take (min (List.length (x.ws[x.k.toNat]?.getD [])) (↑(List.length (x.ws[x.k.toNat]?.getD [])) : Int).toNat) (x.ws[x.k.toNat]?.getD []) ++ List.drop (0 + min (List.length (x.ws[x.k.toNat]?.getD [])) (↑(List.length (x.ws[x.k.toNat]?.getD [])) : Int).toNat) (List.replicate (↑(List.length (x.ws[x.k.toNat]?.getD [])) : Int).toNat (0 : Int)) }) fun y => bif leB (y.x_lo + y.x_len) y.xs.length && true && true then some (Sum.inl { addr := y.addr,data := y.data,en := y.en,sure := y.sure,out_lo := y.out_lo,out_len := y.out_len,out_cap := y.out_cap,ws := y.ws,n := y.n,k := IntKind.i64.wrap (y.k + 1),out := y.out ++ List.take y.x_len (List.drop y.x_lo y.xs) :: y.out_r }) else none else none else none else none else none else none else none else none else none else none
else some (Sum.inr { out_lo := x.out_lo,out_len := x.out_len,out_cap := x.out_cap,out := x.out })
theorem s0_eq (x : p0X) : exec E1 96 (C7.bodyAt 0) 1 (p0.R x) (p0.H x) (roundK 0 p0 (.exit 0) q0) = s0 x := by kernel_rfl
noncomputable def l0 : LoopS := mkLoop 0 p0 (.exit 0) q0 s0
theorem tl0 : topL (C7.bodyAt 0) 1 = [(1,C7.bodyAt 1)] := by kernel_rfl
theorem l0_ok  : LoopOkS Tryd.prog 96 none 0 (C7.bodyAt 0) l0 := mkLoop_ok mixed (env_ok ty_ok cl_ok _) (by trivial) (fun _ => rfl) (fun _ => rfl) (tl0 ▸ (AllL.cons rfl l1_ok AllL.nil)) s0_eq
noncomputable def E0 : Env := ⟨ty,cfOf cl,lpOf [(0,l0),(1,l1)],none⟩
noncomputable def m (x : gX) : Option fY := bindO (bif x.en == 1 then M13b.m { s := x.addr } else some false) fun y => bif decide (0 ≤ (↑x.words.length : Int)) && decide ((↑x.words.length : Int) ≤ (↑x.words.length : Int)) && decide ((↑x.words.length : Int) * (↑24 : Int) ≤ 281474976710656) && decide ((↑x.words.length : Int) ≤ 9223372036854775807) then bindO (iter s0 { addr := x.addr,data := x.data,en := x.en,sure := bif x.en == 1 then !y else false,out_lo := 0,out_len := (↑x.words.length : Int).toNat,out_cap := (↑x.words.length : Int).toNat,ws := x.words,n := (↑x.words.length : Int),k := 0,out := List.replicate (↑x.words.length : Int).toNat [] }) fun y => bif leB (y.out_lo + y.out_len) y.out.length && true && true then some (List.take y.out_len (List.drop y.out_lo y.out)) else none else none
theorem m_eq (x : gX) : exec E0 96 C7 0 (initS 0 (g.A x)) (g.H x) (finish 0 ty [.tmp 8] f) = m x := by kernel_rfl
theorem tl : topL C7 0 = [(0,C7.bodyAt 0)] := by kernel_rfl
theorem known : Known Tryd.prog 7 g f m :=
 mk_known mixed (env_ok ty_ok cl_ok _) s7 rfl rfl tl (AllL.cons rfl l0_ok AllL.nil) (fun _ _ => ⟨rfl,rfl⟩) (fun _ _ => ⟨rfl,rfl⟩) m_eq
noncomputable def con : Con := conT g f m default
theorem con_ok : ConOk Tryd.prog 7 con := conT_ok known (fun _ => rfl) rfl
end M7
end Go.Proofs.YtogkpjhkpgdbkaaDoor
namespace Go.Proofs.YtogkpjhkpgdbkaaDoor
open Go.Abs
set_option maxRecDepth 100000
namespace M50
structure gX where
 x : Int
 y : Int
def g : Sg gX where
 vs := [.c (.it .u64),.c (.it .u64)]
 h := []
 to := fun a b => ⟨a.1,a.2.1⟩
 fa := fun x => (x.x,(x.y,()))
 fh := fun x => ()
abbrev fY := Int × Int
def f : Ft fY where
 ord := none
 sh := .tup [.inl (.it .u64),.inl (.it .u64)]
 h := []
 to := fun a b => (a.1,a.2.1)
 fv := fun y => (y.1,(y.2,()))
 fh := fun y => ()
def cl : List (FuncId × Con) := []
theorem cl_ok : allCon Tryd.prog cl := trivial
def E0 : Env := ⟨ty,cfOf cl,fun _ => none,none⟩
def m (x : gX) : Option fY := some (IntKind.u64.wrap (IntKind.u64.wrap (IntKind.u64.wrap (x.x.fdiv (2 ^ 32) * x.y.fdiv (2 ^ 32)) + (IntKind.u64.wrap (IntKind.u64.wrap (x.x.fdiv (2 ^ 32) * IntKind.u64.wrap (↑(BitVec.ofInt 64 x.y &&& BitVec.ofInt 64 4294967295).toNat : Int)) + (IntKind.u64.wrap (IntKind.u64.wrap (↑(BitVec.ofInt 64 x.x &&& BitVec.ofInt 64 4294967295).toNat : Int) * IntKind.u64.wrap (↑(BitVec.ofInt 64 x.y &&& BitVec.ofInt 64 4294967295).toNat : Int))).fdiv (2 ^ 32))).fdiv (2 ^ 32)) + (IntKind.u64.wrap (IntKind.u64.wrap (↑(BitVec.ofInt 64 (IntKind.u64.wrap (IntKind.u64.wrap (x.x.fdiv (2 ^ 32) * IntKind.u64.wrap (↑(BitVec.ofInt 64 x.y &&& BitVec.ofInt 64 4294967295).toNat : Int)) + (IntKind.u64.wrap (IntKind.u64.wrap (↑(BitVec.ofInt 64 x.x &&& BitVec.ofInt 64 4294967295).toNat : Int) * IntKind.u64.wrap (↑(BitVec.ofInt 64 x.y &&& BitVec.ofInt 64 4294967295).toNat : Int))).fdiv (2 ^ 32))) &&& BitVec.ofInt 64 4294967295).toNat : Int) + IntKind.u64.wrap (IntKind.u64.wrap (↑(BitVec.ofInt 64 x.x &&& BitVec.ofInt 64 4294967295).toNat : Int) * x.y.fdiv (2 ^ 32)))).fdiv (2 ^ 32)),IntKind.u64.wrap (x.x * x.y))
theorem m_eq (x : gX) : exec E0 51 C50 0 (initS 0 (g.A x)) (g.H x) (finish 0 ty [.tmp 4,.tmp 5] f) = m x := by kernel_rfl
theorem tl : topL C50 0 = [] := by kernel_rfl
theorem known : Known Tryd.prog 50 g f m :=
 mk_known mixed (env_ok ty_ok cl_ok _) s50 rfl rfl tl AllL.nil (fun _ _ => ⟨rfl,rfl⟩) (fun _ _ => ⟨rfl,rfl⟩) m_eq
def con : Con := conT g f m default
theorem con_ok : ConOk Tryd.prog 50 con := conT_ok known (fun _ => rfl) rfl
end M50
namespace M49
structure gX where
 x : Int
 y : Int
def g : Sg gX where
 vs := [.c (.it .u32),.c (.it .u32)]
 h := []
 to := fun a b => ⟨a.1,a.2.1⟩
 fa := fun x => (x.x,(x.y,()))
 fh := fun x => ()
abbrev fY := Int × Int
def f : Ft fY where
 ord := none
 sh := .tup [.inl (.it .u32),.inl (.it .u32)]
 h := []
 to := fun a b => (a.1,a.2.1)
 fv := fun y => (y.1,(y.2,()))
 fh := fun y => ()
def cl : List (FuncId × Con) := []
theorem cl_ok : allCon Tryd.prog cl := trivial
def E0 : Env := ⟨ty,cfOf cl,fun _ => none,none⟩
def m (x : gX) : Option fY := some (IntKind.u32.wrap ((IntKind.u64.wrap (IntKind.u64.wrap x.x * IntKind.u64.wrap x.y)).fdiv (2 ^ 32)),IntKind.u32.wrap (IntKind.u64.wrap (IntKind.u64.wrap x.x * IntKind.u64.wrap x.y)))
theorem m_eq (x : gX) : exec E0 17 C49 0 (initS 0 (g.A x)) (g.H x) (finish 0 ty [.tmp 4,.tmp 5] f) = m x := by kernel_rfl
theorem tl : topL C49 0 = [] := by kernel_rfl
theorem known : Known Tryd.prog 49 g f m :=
 mk_known mixed (env_ok ty_ok cl_ok _) s49 rfl rfl tl AllL.nil (fun _ _ => ⟨rfl,rfl⟩) (fun _ _ => ⟨rfl,rfl⟩) m_eq
def con : Con := conT g f m default
theorem con_ok : ConOk Tryd.prog 49 con := conT_ok known (fun _ => rfl) rfl
end M49
namespace M47
structure gX where
 x : Int
 y : Int
def g : Sg gX where
 vs := [.c (.it .u64),.c (.it .u64)]
 h := []
 to := fun a b => ⟨a.1,a.2.1⟩
 fa := fun x => (x.x,(x.y,()))
 fh := fun x => ()
abbrev fY := Int × Int
def f : Ft fY where
 ord := none
 sh := .tup [.inl (.it .u64),.inl (.it .u64)]
 h := []
 to := fun a b => (a.1,a.2.1)
 fv := fun y => (y.1,(y.2,()))
 fh := fun y => ()
def cl : List (FuncId × Con) := [(49,M49.con),(50,M50.con)]
theorem cl_ok : allCon Tryd.prog cl := ⟨M49.con_ok,M50.con_ok,trivial⟩
def E0 : Env := ⟨ty,cfOf cl,fun _ => none,none⟩
def m (x : gX) : Option fY := bindO (M50.m { x := x.x,y := x.y }) fun y => some (y.fst,y.snd)
theorem m_eq (x : gX) : exec E0 30 C47 0 (initS 0 (g.A x)) (g.H x) (finish 0 ty [.tmp 4,.tmp 5] f) = m x := by kernel_rfl
theorem tl : topL C47 0 = [] := by kernel_rfl
theorem known : Known Tryd.prog 47 g f m :=
 mk_known mixed (env_ok ty_ok cl_ok _) s47 rfl rfl tl AllL.nil (fun _ _ => ⟨rfl,rfl⟩) (fun _ _ => ⟨rfl,rfl⟩) m_eq
def con : Con := conT g f m default
theorem con_ok : ConOk Tryd.prog 47 con := conT_ok known (fun _ => rfl) rfl
end M47
namespace M42o
structure gX where
 x : List (Int)
 count : Int
def g : Sg gX where
 vs := [.c (.arr (.int .u8)),.c (.it .i64)]
 h := []
 to := fun a b => ⟨a.1,a.2.1⟩
 fa := fun x => (x.x,(x.count,()))
 fh := fun x => ()
abbrev fY := Nat × Nat × Nat × List (Int)
def f : Ft fY where
 ord := none
 sh := .c (.slc 0 0 1)
 h := [.arr (.int .u8) 0]
 to := fun a b => (a.1,a.2.1,a.2.2,b.1)
 fv := fun y => (y.1,y.2.1,y.2.2.1)
 fh := fun y => (y.2.2.2,())
noncomputable def cl : List (FuncId × Con) := [(47,M47.con)]
theorem cl_ok : allCon Tryd.prog cl := ⟨M47.con_ok,trivial⟩
noncomputable def E1 : Env := ⟨ty,cfOf cl,fun _ => none,none⟩
structure p0X where
 out_lo : Nat
 out_len : Nat
 out_cap : Nat
 n : Int
 xs : List (Int)
def p0 : Pt p0X where
 own := []
 t := ⟨[(7,.c (.slc 0 0 1)),(8,.c (.it .i64))],[.arr (.int .u8) 0]⟩
 to := fun v => ⟨v.1.1.1,v.1.1.2.1,v.1.1.2.2,v.1.2.1,v.2.1⟩
 fr := fun x => (((x.out_lo,x.out_len,x.out_cap),(x.n,())),(x.xs,()))
structure q0X where
 out_lo : Nat
 out_len : Nat
 out_cap : Nat
 xs : List (Int)
def q0 : Pt q0X where
 own := []
 t := ⟨[(7,.c (.slc 0 0 1))],[.arr (.int .u8) 0]⟩
 to := fun v => ⟨v.1.1.1,v.1.1.2.1,v.1.1.2.2,v.2.1⟩
 fr := fun x => (((x.out_lo,x.out_len,x.out_cap),()),(x.xs,()))
noncomputable def s0 (x : p0X) : Option (p0X ⊕ q0X) := bif decide (x.n < (↑x.out_len : Int)) then bif decide (0 ≤ x.n) && decide (x.n ≤ (↑x.out_len : Int)) then bif decide (0 ≤ x.n) && decide (x.n ≤ (↑x.out_cap : Int)) then bif leB (x.out_lo + x.n.toNat) x.xs.length && leB ((bif eqN x.out_cap x.n.toNat then x.out_lo else x.out_lo + x.n.toNat) + (x.out_len - x.n.toNat)) x.xs.length then some (Sum.inl { out_lo := x.out_lo,out_len := x.out_len,out_cap := x.out_cap,n := IntKind.i64.wrap (x.n + (↑(min x.n.toNat (x.out_len - x.n.toNat)) : Int)),xs := List.take (bif eqN x.out_cap x.n.toNat then x.out_lo else x.out_lo + x.n.toNat) x.xs ++ List.take (min x.n.toNat (x.out_len - x.n.toNat)) (List.take x.n.toNat (List.drop x.out_lo x.xs)) ++ List.drop ((bif eqN x.out_cap x.n.toNat then x.out_lo else x.out_lo + x.n.toNat) + min x.n.toNat (x.out_len - x.n.toNat)) x.xs }) else none else none else none
else some (Sum.inr { out_lo := x.out_lo,out_len := x.out_len,out_cap := x.out_cap,xs := x.xs })
theorem s0_eq (x : p0X) : exec E1 48 (C42.bodyAt 0) 1 (p0.R x) (p0.H x) (roundK 0 p0 (.exit 0) q0) = s0 x := by kernel_rfl
noncomputable def l0 : LoopS := mkLoop 0 p0 (.exit 0) q0 s0
theorem tl0 : topL (C42.bodyAt 0) 1 = [] := by kernel_rfl
theorem l0_ok  : LoopOkS Tryd.prog 48 none 0 (C42.bodyAt 0) l0 := mkLoop_ok mixed (env_ok ty_ok cl_ok _) (by trivial) (fun _ => rfl) (fun _ => rfl) (tl0 ▸ AllL.nil) s0_eq
noncomputable def E0 : Env := ⟨ty,cfOf cl,lpOf [(0,l0)],none⟩
noncomputable def m (x : gX) : Option fY := bif decide (x.count < 0) then none
else
 bindO (M47.m { x := IntKind.u64.wrap (↑x.x.length : Int),y := IntKind.u64.wrap x.count }) fun y =>
  bif bif decide (y.fst > 0) then true else decide (y.snd > 9223372036854775807) then none
  else
   bif
     decide (0 ≤ IntKind.i64.wrap y.snd) && decide (IntKind.i64.wrap y.snd ≤ IntKind.i64.wrap y.snd) && decide (IntKind.i64.wrap y.snd * (↑1 : Int) ≤ 281474976710656) &&
      decide (IntKind.i64.wrap y.snd ≤ 9223372036854775807) then
    bif leB (0 + (IntKind.i64.wrap y.snd).toNat) (List.replicate (IntKind.i64.wrap y.snd).toNat (0 : Int)).length then
     bindO
      (iter s0
       {out_lo := 0,out_len := (IntKind.i64.wrap y.snd).toNat,out_cap := (IntKind.i64.wrap y.snd).toNat,n := (↑(min x.x.length (IntKind.i64.wrap y.snd).toNat) : Int),
        xs :=
         List.take 0 (List.replicate (IntKind.i64.wrap y.snd).toNat (0 : Int)) ++ List.take (min x.x.length (IntKind.i64.wrap y.snd).toNat) x.x ++
          List.drop (0 + min x.x.length (IntKind.i64.wrap y.snd).toNat) (List.replicate (IntKind.i64.wrap y.snd).toNat (0 : Int)) })
      fun y => some (y.out_lo,y.out_len,y.out_cap,y.xs)
    else none
   else none
theorem m_eq (x : gX) : exec E0 48 C42 0 (initS 0 (g.A x)) (g.H x) (finish 0 ty [.tmp 4] f) = m x := by kernel_rfl
theorem tl : topL C42 0 = [(0,C42.bodyAt 0)] := by kernel_rfl
theorem known : Known Tryd.prog 42 g f m :=
 mk_known mixed (env_ok ty_ok cl_ok _) s42 rfl rfl tl (AllL.cons rfl l0_ok AllL.nil) (fun _ _ => ⟨rfl,rfl⟩) (fun _ _ => ⟨rfl,rfl⟩) m_eq
noncomputable def con : Con := conG g [] f m default
theorem con_ok : ConOk Tryd.prog 42 con := conG_ok known
end M42o
namespace M27o
structure gX where
 n : Int
def g : Sg gX where
 vs := [.c (.it .i64)]
 h := []
 to := fun a b => ⟨a.1⟩
 fa := fun x => (x.n,())
 fh := fun x => ()
abbrev fY := Nat × Nat × Nat × List (Int)
def f : Ft fY where
 ord := none
 sh := .c (.slc 0 0 1)
 h := [.arr (.int .u8) 0]
 to := fun a b => (a.1,a.2.1,a.2.2,b.1)
 fv := fun y => (y.1,y.2.1,y.2.2.1)
 fh := fun y => (y.2.2.2,())
noncomputable def cl : List (FuncId × Con) := [(42,M42o.con)]
theorem cl_ok : allCon Tryd.prog cl := ⟨M42o.con_ok,trivial⟩
noncomputable def E0 : Env := ⟨ty,cfOf cl,fun _ => none,none⟩
noncomputable def m (x : gX) : Option fY := bindO (M42o.m { x := [2],count := x.n }) fun y => some (y.fst,y.snd.fst,y.snd.snd.fst,y.snd.snd.snd)
theorem m_eq (x : gX) : exec E0 6 C27 0 (initS 0 (g.A x)) (g.H x) (finish 0 ty [.tmp 2] f) = m x := by kernel_rfl
theorem tl : topL C27 0 = [] := by kernel_rfl
theorem known : Known Tryd.prog 27 g f m :=
 mk_known mixed (env_ok ty_ok cl_ok _) s27 rfl rfl tl AllL.nil (fun _ _ => ⟨rfl,rfl⟩) (fun _ _ => ⟨rfl,rfl⟩) m_eq
noncomputable def con : Con := conG g [] f m default
theorem con_ok : ConOk Tryd.prog 27 con := conG_ok known
end M27o
end Go.Proofs.YtogkpjhkpgdbkaaDoor
namespace Go.Proofs.YtogkpjhkpgdbkaaDoor
open Go.Abs
set_option maxRecDepth 100000
namespace M9
structure gX where
 words : List (List (Int))
 addr : List (Int)
def g : Sg gX where
 vs := [.c (.arr (.sl (.int .u8))),.c (.arr (.int .u8))]
 h := []
 to := fun a b => ⟨a.1,a.2.1⟩
 fa := fun x => (x.words,(x.addr,()))
 fh := fun x => ()
abbrev fY := List (Int)
def f : Ft fY where
 ord := none
 sh := .c (.arr (.int .u8))
 h := []
 to := fun a b => (a)
 fv := fun y => y
 fh := fun y => ()
noncomputable def cl : List (FuncId × Con) := [(27,M27o.con),(24,M24.con),(25,M25.con),(26,M26.con)]
theorem cl_ok : allCon Tryd.prog cl := ⟨M27o.con_ok,M24.con_ok,M25.con_ok,M26.con_ok,trivial⟩
noncomputable def E2 : Env := ⟨ty,cfOf cl,fun _ => none,none⟩
structure p1X where
 addr : List (Int)
 out_lo : Nat
 out_len : Nat
 out_cap : Nat
 first : Bool
 ws : List (List (Int))
 n : Int
 k : Int
 word : List (Int)
 nn : Int
 b : Int
 xs : List (Int)
def p1 : Pt p1X where
 own := []
 t := ⟨[(1,.c (.arr (.int .u8))),(5,.c (.slc 0 0 1)),(6,.c (.bo)),(18,.c (.arr (.sl (.int .u8)))),(19,.c (.it .i64)),(20,.c (.it .i64)),(8,.c (.arr (.int .u8))),(30,.c (.it .i64)),(31,.c (.it .i64))],[.arr (.int .u8) 0]⟩
 to := fun v => ⟨v.1.1,v.1.2.1.1,v.1.2.1.2.1,v.1.2.1.2.2,v.1.2.2.1,v.1.2.2.2.1,v.1.2.2.2.2.1,v.1.2.2.2.2.2.1,v.1.2.2.2.2.2.2.1,v.1.2.2.2.2.2.2.2.1,v.1.2.2.2.2.2.2.2.2.1,v.2.1⟩
 fr := fun x => ((x.addr,((x.out_lo,x.out_len,x.out_cap),(x.first,(x.ws,(x.n,(x.k,(x.word,(x.nn,(x.b,()))))))))),(x.xs,()))
structure q1X where
 addr : List (Int)
 out_lo : Nat
 out_len : Nat
 out_cap : Nat
 first : Bool
 ws : List (List (Int))
 n : Int
 k : Int
 xs : List (Int)
def q1 : Pt q1X where
 own := []
 t := ⟨[(1,.c (.arr (.int .u8))),(5,.c (.slc 0 0 1)),(6,.c (.bo)),(18,.c (.arr (.sl (.int .u8)))),(19,.c (.it .i64)),(20,.c (.it .i64))],[.arr (.int .u8) 0]⟩
 to := fun v => ⟨v.1.1,v.1.2.1.1,v.1.2.1.2.1,v.1.2.1.2.2,v.1.2.2.1,v.1.2.2.2.1,v.1.2.2.2.2.1,v.1.2.2.2.2.2.1,v.2.1⟩
 fr := fun x => ((x.addr,((x.out_lo,x.out_len,x.out_cap),(x.first,(x.ws,(x.n,(x.k,())))))),(x.xs,()))
noncomputable def s1 (x : p1X) : Option (p1X ⊕ q1X) := bif decide (x.b < x.nn) then bif x.first then bindO (M24.m { word := x.word,b := x.b }) fun y => bif inR x.b x.out_len then bif decide (x.out_lo + x.b.toNat < x.xs.length) then some (Sum.inl { addr := x.addr,out_lo := x.out_lo,out_len := x.out_len,out_cap := x.out_cap,first := x.first,ws := x.ws,n := x.n,k := x.k,word := x.word,nn := x.nn,b := IntKind.i64.wrap (x.b + 1),xs := x.xs.set (x.out_lo + x.b.toNat) y }) else none else none else bif inR x.b x.out_len then bif decide (x.out_lo + x.b.toNat < x.xs.length) then bindO (M24.m { word := x.word,b := x.b }) fun y => bindO (M26.m { a := x.xs[x.out_lo + x.b.toNat]?.getD 0,b := y }) fun y => bif inR x.b x.out_len then bif decide (x.out_lo + x.b.toNat < x.xs.length) then some (Sum.inl { addr := x.addr,out_lo := x.out_lo,out_len := x.out_len,out_cap := x.out_cap,first := x.first,ws := x.ws,n := x.n,k := x.k,word := x.word,nn := x.nn,b := IntKind.i64.wrap (x.b + 1),xs := x.xs.set (x.out_lo + x.b.toNat) y }) else none else none else none else none
else some (Sum.inr { addr := x.addr,out_lo := x.out_lo,out_len := x.out_len,out_cap := x.out_cap,first := x.first,ws := x.ws,n := x.n,k := x.k,xs := x.xs })
theorem s1_eq (x : p1X) : exec E2 55 (C9.bodyAt 1) 2 (p1.R x) (p1.H x) (roundK 0 p1 (.exit 2) q1) = s1 x := by kernel_rfl
noncomputable def l1 : LoopS := mkLoop 0 p1 (.exit 2) q1 s1
theorem tl1 : topL (C9.bodyAt 1) 2 = [] := by kernel_rfl
theorem l1_ok  : LoopOkS Tryd.prog 55 none 0 (C9.bodyAt 1) l1 := mkLoop_ok mixed (env_ok ty_ok cl_ok _) (by trivial) (fun _ => rfl) (fun _ => rfl) (tl1 ▸ AllL.nil) s1_eq
noncomputable def E1 : Env := ⟨ty,cfOf cl,lpOf [(1,l1)],none⟩
structure p0X where
 addr : List (Int)
 out_lo : Nat
 out_len : Nat
 out_cap : Nat
 first : Bool
 ws : List (List (Int))
 n : Int
 k : Int
 xs : List (Int)
def p0 : Pt p0X where
 own := []
 t := ⟨[(1,.c (.arr (.int .u8))),(5,.c (.slc 0 0 1)),(6,.c (.bo)),(18,.c (.arr (.sl (.int .u8)))),(19,.c (.it .i64)),(20,.c (.it .i64))],[.arr (.int .u8) 0]⟩
 to := fun v => ⟨v.1.1,v.1.2.1.1,v.1.2.1.2.1,v.1.2.1.2.2,v.1.2.2.1,v.1.2.2.2.1,v.1.2.2.2.2.1,v.1.2.2.2.2.2.1,v.2.1⟩
 fr := fun x => ((x.addr,((x.out_lo,x.out_len,x.out_cap),(x.first,(x.ws,(x.n,(x.k,())))))),(x.xs,()))
structure q0X where
 out_lo : Nat
 out_len : Nat
 out_cap : Nat
 xs : List (Int)
def q0 : Pt q0X where
 own := []
 t := ⟨[(5,.c (.slc 0 0 1))],[.arr (.int .u8) 0]⟩
 to := fun v => ⟨v.1.1.1,v.1.1.2.1,v.1.1.2.2,v.2.1⟩
 fr := fun x => (((x.out_lo,x.out_len,x.out_cap),()),(x.xs,()))
noncomputable def s0 (x : p0X) : Option (p0X ⊕ q0X) := bif decide (x.k < x.n) then bif inR x.k x.ws.length then bindO (M25.m { i := x.k,addr := x.addr }) fun y => bif !y then some (Sum.inl { addr := x.addr,out_lo := x.out_lo,out_len := x.out_len,out_cap := x.out_cap,first := x.first,ws := x.ws,n := x.n,k := IntKind.i64.wrap (x.k + 1),xs := x.xs }) else bindO (iter s1 { addr := x.addr,out_lo := x.out_lo,out_len := x.out_len,out_cap := x.out_cap,first := x.first,ws := x.ws,n := x.n,k := x.k,word := x.ws[x.k.toNat]?.getD [],nn := (↑x.out_len : Int),b := 0,xs := x.xs }) fun y => some (Sum.inl { addr := y.addr,out_lo := y.out_lo,out_len := y.out_len,out_cap := y.out_cap,first := false,ws := y.ws,n := y.n,k := IntKind.i64.wrap (y.k + 1),xs := y.xs }) else none
else some (Sum.inr { out_lo := x.out_lo,out_len := x.out_len,out_cap := x.out_cap,xs := x.xs })
theorem s0_eq (x : p0X) : exec E1 55 (C9.bodyAt 0) 1 (p0.R x) (p0.H x) (roundK 0 p0 (.exit 0) q0) = s0 x := by kernel_rfl
noncomputable def l0 : LoopS := mkLoop 0 p0 (.exit 0) q0 s0
theorem tl0 : topL (C9.bodyAt 0) 1 = [(1,C9.bodyAt 1)] := by kernel_rfl
theorem l0_ok  : LoopOkS Tryd.prog 55 none 0 (C9.bodyAt 0) l0 := mkLoop_ok mixed (env_ok ty_ok cl_ok _) (by trivial) (fun _ => rfl) (fun _ => rfl) (tl0 ▸ (AllL.cons rfl l1_ok AllL.nil)) s0_eq
noncomputable def E0 : Env := ⟨ty,cfOf cl,lpOf [(0,l0),(1,l1)],none⟩
noncomputable def m (x : gX) : Option fY := bif (↑x.words.length : Int) == 0 then some []
else
 bif inR 0 x.words.length then
  bindO (M27o.m { n := (↑(List.length (x.words[0]?.getD [])) : Int) }) fun y =>
   bindO
    (iter s0
     {addr := x.addr,out_lo := y.fst,out_len := y.snd.fst,out_cap := y.snd.snd.fst,first := true,ws := x.words,n := (↑x.words.length : Int),k := 0,
      xs := y.snd.snd.snd })
    fun y => bif leB (y.out_lo + y.out_len) y.xs.length && true && true then some (List.take y.out_len (List.drop y.out_lo y.xs)) else none
 else none
theorem m_eq (x : gX) : exec E0 55 C9 0 (initS 0 (g.A x)) (g.H x) (finish 0 ty [.tmp 4] f) = m x := by kernel_rfl
theorem tl : topL C9 0 = [(0,C9.bodyAt 0)] := by kernel_rfl
theorem known : Known Tryd.prog 9 g f m :=
 mk_known mixed (env_ok ty_ok cl_ok _) s9 rfl rfl tl (AllL.cons rfl l0_ok AllL.nil) (fun _ _ => ⟨rfl,rfl⟩) (fun _ _ => ⟨rfl,rfl⟩) m_eq
noncomputable def con : Con := conT g f m default
theorem con_ok : ConOk Tryd.prog 9 con := conT_ok known (fun _ => rfl) rfl
end M9
end Go.Proofs.YtogkpjhkpgdbkaaDoor
namespace Go.Proofs.YtogkpjhkpgdbkaaDoor
open Go.Abs
set_option maxRecDepth 100000
namespace M16
structure gX where
 s : List (Int)
def g : Sg gX where
 vs := [.c (.arr (.int .u8))]
 h := []
 to := fun a b => ⟨a.1⟩
 fa := fun x => (x.s,())
 fh := fun x => ()
abbrev fY := Nat × Nat × List (Int)
def f : Ft fY where
 ord := none
 sh := .c (.sl 0 0 1)
 h := [.arr (.int .u8) 0]
 to := fun a b => (a.1,a.2,b.1)
 fv := fun y => (y.1,y.2.1)
 fh := fun y => (y.2.2,())
def cl : List (FuncId × Con) := []
theorem cl_ok : allCon Tryd.prog cl := trivial
def E0 : Env := ⟨ty,cfOf cl,fun _ => none,none⟩
def m (x : gX) : Option fY := bif !eqN x.s.length 0 then bif roomB x.s.length 1 then some (0,x.s.length,x.s) else none else none
theorem m_eq (x : gX) : exec E0 8 C16 0 (initS 0 (g.A x)) (g.H x) (finish 0 ty [.tmp 2] f) = m x := by kernel_rfl
theorem tl : topL C16 0 = [] := by kernel_rfl
theorem known : Known Tryd.prog 16 g f m :=
 mk_known mixed (env_ok ty_ok cl_ok _) s16 rfl rfl tl AllL.nil (fun _ _ => ⟨rfl,rfl⟩) (fun _ _ => ⟨rfl,rfl⟩) m_eq
def con : Con := conG g [] f m default
theorem con_ok : ConOk Tryd.prog 16 con := conG_ok known
end M16
namespace M39
structure gX where
 a : Int
 n : Int
def g : Sg gX where
 vs := [.c (.it .i64),.c (.ptr 0 0)]
 h := [.st [.it .i64] 1 0]
 to := fun a b => ⟨a.1,b.1.1⟩
 fa := fun x => (x.a,((),()))
 fh := fun x => ((x.n,()),())
abbrev fY := Bool × Int
def f : Ft fY where
 ord := none
 sh := .c (.bo)
 h := [.st [.it .i64] 1 0]
 to := fun a b => (a,b.1.1)
 fv := fun y => y.1
 fh := fun y => ((y.2,()),())
def cl : List (FuncId × Con) := []
theorem cl_ok : allCon Tryd.prog cl := trivial
def E0 : Env := ⟨ty,cfOf cl,fun _ => none,none⟩
def m (x : gX) : Option fY := some (bif decide (x.a ≥ 0) then decide (x.a < x.n) else false,x.n)
theorem m_eq (x : gX) : exec E0 11 C39 0 (initS 0 (g.A x)) (g.H x) (finish 1 ty [.tmp 3] f) = m x := by kernel_rfl
theorem tl : topL C39 0 = [] := by kernel_rfl
theorem known : Known Tryd.prog 39 g f m :=
 mk_known mixed (env_ok ty_ok cl_ok _) s39 rfl rfl tl AllL.nil (fun _ _ => ⟨rfl,rfl⟩) (fun _ _ => ⟨rfl,rfl⟩) m_eq
def con : Con := conR g [.arg 1 0] f m default
theorem con_ok : ConOk Tryd.prog 39 con := conR_ok known (fun _ => rfl) (fun _ _ h => by unfold m at h; cases h; rfl)
end M39
namespace M40
structure gX where
 c : Int
def g : Sg gX where
 vs := [.c (.it .u8)]
 h := []
 to := fun a b => ⟨a.1⟩
 fa := fun x => (x.c,())
 fh := fun x => ()
abbrev fY := Bool
def f : Ft fY where
 ord := none
 sh := .c (.bo)
 h := []
 to := fun a b => (a)
 fv := fun y => y
 fh := fun y => ()
def cl : List (FuncId × Con) := []
theorem cl_ok : allCon Tryd.prog cl := trivial
def E0 : Env := ⟨ty,cfOf cl,fun _ => none,none⟩
def m (x : gX) : Option fY := some (bif bif decide (x.c ≤ 3) then true else x.c == 14 then true else x.c == 15)
theorem m_eq (x : gX) : exec E0 13 C40 0 (initS 0 (g.A x)) (g.H x) (finish 0 ty [.tmp 2] f) = m x := by kernel_rfl
theorem tl : topL C40 0 = [] := by kernel_rfl
theorem known : Known Tryd.prog 40 g f m :=
 mk_known mixed (env_ok ty_ok cl_ok _) s40 rfl rfl tl AllL.nil (fun _ _ => ⟨rfl,rfl⟩) (fun _ _ => ⟨rfl,rfl⟩) m_eq
def con : Con := conT g f m default
theorem con_ok : ConOk Tryd.prog 40 con := conT_ok known (fun _ => rfl) rfl
end M40
namespace M19
structure gX where
 addr : Int
 cls : Int
 cell : Int
 other : Int
 cells_lo : Nat
 cells_len : Nat
 intact : Bool
 xs : List (Int)
def g : Sg gX where
 vs := [.c (.ptr 0 0),.c (.it .i64)]
 h := [.st [.it .u8,.it .i64,.it .i64,.sl 1 0 1,.bo] 1 0,.arr (.int .u8) 0]
 to := fun a b => ⟨a.2.1,b.1.1,b.1.2.1,b.1.2.2.1,b.1.2.2.2.1.1,b.1.2.2.2.1.2,b.1.2.2.2.2.1,b.2.1⟩
 fa := fun x => ((),(x.addr,()))
 fh := fun x => ((x.cls,(x.cell,(x.other,((x.cells_lo,x.cells_len),(x.intact,()))))),(x.xs,()))
abbrev fY := Int × Int × Int × Int × Nat × Nat × Bool × List (Int)
def f : Ft fY where
 ord := none
 sh := .c (.it .i64)
 h := [.st [.it .u8,.it .i64,.it .i64,.sl 1 0 1,.bo] 1 0,.arr (.int .u8) 0]
 to := fun a b => (a,b.1.1,b.1.2.1,b.1.2.2.1,b.1.2.2.2.1.1,b.1.2.2.2.1.2,b.1.2.2.2.2.1,b.2.1)
 fv := fun y => y.1
 fh := fun y => ((y.2.1,(y.2.2.1,(y.2.2.2.1,((y.2.2.2.2.1,y.2.2.2.2.2.1),(y.2.2.2.2.2.2.1,()))))),(y.2.2.2.2.2.2.2,()))
def cl : List (FuncId × Con) := []
theorem cl_ok : allCon Tryd.prog cl := trivial
def E0 : Env := ⟨ty,cfOf cl,fun _ => none,none⟩
def m (x : gX) : Option fY := bif (↑x.cells_len : Int) == 0 then some (2,x.cls,x.cell,x.other,x.cells_lo,x.cells_len,x.intact,x.xs)
else
 bif bif decide (x.addr < 0) then true else decide (x.addr ≥ (↑x.cells_len : Int)) then some (1,x.cls,x.cell,x.other,x.cells_lo,x.cells_len,x.intact,x.xs)
 else some (0,x.cls,x.cell,x.other,x.cells_lo,x.cells_len,x.intact,x.xs)
theorem m_eq (x : gX) : exec E0 28 C19 0 (initS 0 (g.A x)) (g.H x) (finish 2 ty [.tmp 4] f) = m x := by kernel_rfl
theorem tl : topL C19 0 = [] := by kernel_rfl
theorem known : Known Tryd.prog 19 g f m :=
 mk_known mixed (env_ok ty_ok cl_ok _) s19 rfl rfl tl AllL.nil (fun _ _ => ⟨rfl,rfl⟩) (fun _ _ => ⟨rfl,rfl⟩) m_eq
def con : Con := conG g [.arg 0 0,.cell 0 3] f m default
theorem con_ok : ConOk Tryd.prog 19 con := conG_ok known
end M19
namespace M20
structure gX where
 addr : Int
 cls : Int
 cell : Int
 other : Int
 cells_lo : Nat
 cells_len : Nat
 intact : Bool
 xs : List (Int)
def g : Sg gX where
 vs := [.c (.ptr 0 0),.c (.it .i64)]
 h := [.st [.it .u8,.it .i64,.it .i64,.sl 1 0 1,.bo] 1 0,.arr (.int .u8) 0]
 to := fun a b => ⟨a.2.1,b.1.1,b.1.2.1,b.1.2.2.1,b.1.2.2.2.1.1,b.1.2.2.2.1.2,b.1.2.2.2.2.1,b.2.1⟩
 fa := fun x => ((),(x.addr,()))
 fh := fun x => ((x.cls,(x.cell,(x.other,((x.cells_lo,x.cells_len),(x.intact,()))))),(x.xs,()))
abbrev fY := List (Int) × Int × Int × Int × Nat × Nat × Bool × List (Int)
def f : Ft fY where
 ord := none
 sh := .c (.arr (.int .i64))
 h := [.st [.it .u8,.it .i64,.it .i64,.sl 1 0 1,.bo] 1 0,.arr (.int .u8) 0]
 to := fun a b => (a,b.1.1,b.1.2.1,b.1.2.2.1,b.1.2.2.2.1.1,b.1.2.2.2.1.2,b.1.2.2.2.2.1,b.2.1)
 fv := fun y => y.1
 fh := fun y => ((y.2.1,(y.2.2.1,(y.2.2.2.1,((y.2.2.2.2.1,y.2.2.2.2.2.1),(y.2.2.2.2.2.2.1,()))))),(y.2.2.2.2.2.2.2,()))
def cl : List (FuncId × Con) := []
theorem cl_ok : allCon Tryd.prog cl := trivial
def E0 : Env := ⟨ty,cfOf cl,fun _ => none,none⟩
def m (x : gX) : Option fY := bif bif !x.intact then x.addr == x.cell else false then bif bif x.cls == 14 then x.cls == 14 else x.cls == 15 then some ([],x.cls,x.cell,x.other,x.cells_lo,x.cells_len,x.intact,x.xs) else bif x.cls == 16 then some ([x.other],x.cls,x.cell,x.other,x.cells_lo,x.cells_len,x.intact,x.xs) else bif bif x.cls == 17 then x.cls == 17 else x.cls == 18 then some ([x.cell,x.other],x.cls,x.cell,x.other,x.cells_lo,x.cells_len,x.intact,x.xs) else some ([x.addr],x.cls,x.cell,x.other,x.cells_lo,x.cells_len,x.intact,x.xs)
else some ([x.addr],x.cls,x.cell,x.other,x.cells_lo,x.cells_len,x.intact,x.xs)
theorem m_eq (x : gX) : exec E0 51 C20 0 (initS 0 (g.A x)) (g.H x) (finish 2 ty [.tmp 4] f) = m x := by kernel_rfl
theorem tl : topL C20 0 = [] := by kernel_rfl
theorem known : Known Tryd.prog 20 g f m :=
 mk_known mixed (env_ok ty_ok cl_ok _) s20 rfl rfl tl AllL.nil (fun _ _ => ⟨rfl,rfl⟩) (fun _ _ => ⟨rfl,rfl⟩) m_eq
def con : Con := conG g [.arg 0 0,.cell 0 3] f m default
theorem con_ok : ConOk Tryd.prog 20 con := conG_ok known
end M20
namespace M18
structure gX where
 cls : Int
 cell : Int
 other : Int
 cells_lo : Nat
 cells_len : Nat
 intact : Bool
 xs : List (Int)
def g : Sg gX where
 vs := [.c (.ptr 0 0)]
 h := [.st [.it .u8,.it .i64,.it .i64,.sl 1 0 1,.bo] 1 0,.arr (.int .u8) 0]
 to := fun a b => ⟨b.1.1,b.1.2.1,b.1.2.2.1,b.1.2.2.2.1.1,b.1.2.2.2.1.2,b.1.2.2.2.2.1,b.2.1⟩
 fa := fun x => ((),())
 fh := fun x => ((x.cls,(x.cell,(x.other,((x.cells_lo,x.cells_len),(x.intact,()))))),(x.xs,()))
abbrev fY := Int × Int × Int × Nat × Nat × Bool × List (Int)
def f : Ft fY where
 ord := none
 sh := .tup []
 h := [.st [.it .u8,.it .i64,.it .i64,.sl 1 0 1,.bo] 1 0,.arr (.int .u8) 0]
 to := fun a b => (b.1.1,b.1.2.1,b.1.2.2.1,b.1.2.2.2.1.1,b.1.2.2.2.1.2,b.1.2.2.2.2.1,b.2.1)
 fv := fun y => ()
 fh := fun y => ((y.1,(y.2.1,(y.2.2.1,((y.2.2.2.1,y.2.2.2.2.1),(y.2.2.2.2.2.1,()))))),(y.2.2.2.2.2.2,()))
def cl : List (FuncId × Con) := []
theorem cl_ok : allCon Tryd.prog cl := trivial
def E0 : Env := ⟨ty,cfOf cl,fun _ => none,none⟩
def m (x : gX) : Option fY := bif bif bif x.intact then true else decide (x.cls < 10) then true else decide (x.cls > 13) then some (x.cls,x.cell,x.other,x.cells_lo,x.cells_len,x.intact,x.xs)
else
 bif inR x.other x.cells_len then
  bif decide (x.cells_lo + x.other.toNat < x.xs.length) then
   bif x.xs[x.cells_lo + x.other.toNat]?.getD 0 == IntKind.u8.wrap ((IntKind.u8.wrap (x.cls - 10)).tdiv 2) then
    bif inR x.cell x.cells_len then
     bif decide (x.cells_lo + x.cell.toNat < x.xs.length) then
      some (x.cls,x.cell,x.other,x.cells_lo,x.cells_len,x.intact,x.xs.set (x.cells_lo + x.cell.toNat) ((IntKind.u8.wrap (x.cls - 10)).tmod 2))
     else none
    else none
   else some (x.cls,x.cell,x.other,x.cells_lo,x.cells_len,x.intact,x.xs)
  else none
 else none
theorem m_eq (x : gX) : exec E0 55 C18 0 (initS 0 (g.A x)) (g.H x) (finish 2 ty [] f) = m x := by kernel_rfl
theorem tl : topL C18 0 = [] := by kernel_rfl
theorem known : Known Tryd.prog 18 g f m :=
 mk_known mixed (env_ok ty_ok cl_ok _) s18 rfl rfl tl AllL.nil (fun _ _ => ⟨rfl,rfl⟩) (fun _ _ => ⟨rfl,rfl⟩) m_eq
def con : Con := conG g [.arg 0 0,.cell 0 3] f m default
theorem con_ok : ConOk Tryd.prog 18 con := conG_ok known
end M18
namespace M41
structure gX where
 v : Int
 cls : Int
 cell : Int
 other : Int
 cells_lo : Nat
 cells_len : Nat
 intact : Bool
 xs : List (Int)
def g : Sg gX where
 vs := [.c (.ptr 0 0),.c (.it .u8)]
 h := [.st [.it .u8,.it .i64,.it .i64,.sl 1 0 1,.bo] 1 0,.arr (.int .u8) 0]
 to := fun a b => ⟨a.2.1,b.1.1,b.1.2.1,b.1.2.2.1,b.1.2.2.2.1.1,b.1.2.2.2.1.2,b.1.2.2.2.2.1,b.2.1⟩
 fa := fun x => ((),(x.v,()))
 fh := fun x => ((x.cls,(x.cell,(x.other,((x.cells_lo,x.cells_len),(x.intact,()))))),(x.xs,()))
abbrev fY := Int × Int × Int × Nat × Nat × Bool × List (Int)
def f : Ft fY where
 ord := none
 sh := .tup []
 h := [.st [.it .u8,.it .i64,.it .i64,.sl 1 0 1,.bo] 1 0,.arr (.int .u8) 0]
 to := fun a b => (b.1.1,b.1.2.1,b.1.2.2.1,b.1.2.2.2.1.1,b.1.2.2.2.1.2,b.1.2.2.2.2.1,b.2.1)
 fv := fun y => ()
 fh := fun y => ((y.1,(y.2.1,(y.2.2.1,((y.2.2.2.1,y.2.2.2.2.1),(y.2.2.2.2.2.1,()))))),(y.2.2.2.2.2.2,()))
def cl : List (FuncId × Con) := []
theorem cl_ok : allCon Tryd.prog cl := trivial
def E0 : Env := ⟨ty,cfOf cl,fun _ => none,none⟩
def m (x : gX) : Option fY := bif bif bif x.cls == 4 then x.v == 1 else false then bif x.cls == 4 then x.v == 1 else false else bif x.cls == 5 then x.v == 0 else false then bif inR x.cell x.cells_len then bif decide (x.cells_lo + x.cell.toNat < x.xs.length) then bif inR x.cell x.cells_len then bif decide (x.cells_lo + x.cell.toNat < x.xs.length) then some (x.cls,x.cell,x.other,x.cells_lo,x.cells_len,x.intact,x.xs.set (x.cells_lo + x.cell.toNat) (IntKind.u8.wrap (↑(BitVec.ofInt 8 (x.xs[x.cells_lo + x.cell.toNat]?.getD 0) ^^^ BitVec.ofInt 8 1).toNat : Int))) else none else none else none else none
else
 bif bif bif x.cls == 6 then true else x.cls == 7 then x.v == 1 else false then
  bif inR x.cell x.cells_len then
   bif decide (x.cells_lo + x.cell.toNat < x.xs.length) then
    some (x.cls,x.cell,x.other,x.cells_lo,x.cells_len,x.intact,x.xs.set (x.cells_lo + x.cell.toNat) (IntKind.u8.wrap (x.cls - 6)))
   else none
  else none
 else
  bif bif bif x.cls == 8 then true else x.cls == 9 then x.v == 0 else false then
   bif inR x.cell x.cells_len then
    bif decide (x.cells_lo + x.cell.toNat < x.xs.length) then
     some (x.cls,x.cell,x.other,x.cells_lo,x.cells_len,x.intact,x.xs.set (x.cells_lo + x.cell.toNat) (IntKind.u8.wrap (x.cls - 8)))
    else none
   else none
  else some (x.cls,x.cell,x.other,x.cells_lo,x.cells_len,x.intact,x.xs)
theorem m_eq (x : gX) : exec E0 108 C41 0 (initS 0 (g.A x)) (g.H x) (finish 2 ty [] f) = m x := by kernel_rfl
theorem tl : topL C41 0 = [] := by kernel_rfl
theorem known : Known Tryd.prog 41 g f m :=
 mk_known mixed (env_ok ty_ok cl_ok _) s41 rfl rfl tl AllL.nil (fun _ _ => ⟨rfl,rfl⟩) (fun _ _ => ⟨rfl,rfl⟩) m_eq
def con : Con := conG g [.arg 0 0,.cell 0 3] f m default
theorem con_ok : ConOk Tryd.prog 41 con := conG_ok known
end M41
namespace M21
structure gX where
 x : Int
 v : Int
 cls : Int
 cell : Int
 other : Int
 cells_lo : Nat
 cells_len : Nat
 intact : Bool
 xs : List (Int)
def g : Sg gX where
 vs := [.c (.ptr 0 0),.c (.it .i64),.c (.it .u8)]
 h := [.st [.it .u8,.it .i64,.it .i64,.sl 1 0 1,.bo] 1 0,.arr (.int .u8) 0]
 to := fun a b => ⟨a.2.1,a.2.2.1,b.1.1,b.1.2.1,b.1.2.2.1,b.1.2.2.2.1.1,b.1.2.2.2.1.2,b.1.2.2.2.2.1,b.2.1⟩
 fa := fun x => ((),(x.x,(x.v,())))
 fh := fun x => ((x.cls,(x.cell,(x.other,((x.cells_lo,x.cells_len),(x.intact,()))))),(x.xs,()))
abbrev fY := Int × Int × Int × Nat × Nat × Bool × List (Int)
def f : Ft fY where
 ord := none
 sh := .tup []
 h := [.st [.it .u8,.it .i64,.it .i64,.sl 1 0 1,.bo] 1 0,.arr (.int .u8) 0]
 to := fun a b => (b.1.1,b.1.2.1,b.1.2.2.1,b.1.2.2.2.1.1,b.1.2.2.2.1.2,b.1.2.2.2.2.1,b.2.1)
 fv := fun y => ()
 fh := fun y => ((y.1,(y.2.1,(y.2.2.1,((y.2.2.2.1,y.2.2.2.2.1),(y.2.2.2.2.2.1,()))))),(y.2.2.2.2.2.2,()))
def cl : List (FuncId × Con) := [(40,M40.con),(18,M18.con),(41,M41.con)]
theorem cl_ok : allCon Tryd.prog cl := ⟨M40.con_ok,M18.con_ok,M41.con_ok,trivial⟩
def E0 : Env := ⟨ty,cfOf cl,fun _ => none,none⟩
def m (x : gX) : Option fY := bif inR x.x x.cells_len then bif decide (x.cells_lo + x.x.toNat < x.xs.length) then bif x.intact then bif inR x.x x.cells_len then bif decide (x.cells_lo + x.x.toNat < x.xs.length) then some (x.cls,x.cell,x.other,x.cells_lo,x.cells_len,x.intact,x.xs.set (x.cells_lo + x.x.toNat) x.v) else none else none else bif x.x == x.cell then bif bif decide (x.cls ≤ 1) then decide (x.cls ≤ 1) else bif bif x.cls == 2 then x.v == 1 else false then bif x.cls == 2 then x.v == 1 else false else bif x.cls == 3 then x.v == 0 else false then some (x.cls,x.cell,x.other,x.cells_lo,x.cells_len,x.intact,x.xs) else bif inR x.x x.cells_len then bif decide (x.cells_lo + x.x.toNat < x.xs.length) then bindO (bif bif x.x == x.other then x.v != x.xs[x.cells_lo + x.x.toNat]?.getD 0 else false then M40.m { c := x.cls } else some false) fun y => bif bif bif x.x == x.other then x.v != x.xs[x.cells_lo + x.x.toNat]?.getD 0 else false then !y else false then bindO (M41.m { v := x.v,cls := x.cls,cell := x.cell,other := x.other,cells_lo := x.cells_lo,cells_len := x.cells_len,intact := x.intact,xs := x.xs.set (x.cells_lo + x.x.toNat) x.v }) fun y => bindO (M18.m { cls := y.fst,cell := y.snd.fst,other := y.snd.snd.fst,cells_lo := y.snd.snd.snd.fst,cells_len := y.snd.snd.snd.snd.fst,intact := y.snd.snd.snd.snd.snd.fst,xs := y.snd.snd.snd.snd.snd.snd }) fun y => some (y.fst,y.snd.fst,y.snd.snd.fst,y.snd.snd.snd.fst,y.snd.snd.snd.snd.fst,y.snd.snd.snd.snd.snd.fst,y.snd.snd.snd.snd.snd.snd) else bindO (M18.m { cls := x.cls,cell := x.cell,other := x.other,cells_lo := x.cells_lo,cells_len := x.cells_len,intact := x.intact,xs := x.xs.set (x.cells_lo + x.x.toNat) x.v }) fun y => some (y.fst,y.snd.fst,y.snd.snd.fst,y.snd.snd.snd.fst,y.snd.snd.snd.snd.fst,y.snd.snd.snd.snd.snd.fst,y.snd.snd.snd.snd.snd.snd) else none else none else bif inR x.x x.cells_len then bif decide (x.cells_lo + x.x.toNat < x.xs.length) then bindO (bif bif x.x == x.other then x.v != x.xs[x.cells_lo + x.x.toNat]?.getD 0 else false then M40.m { c := x.cls } else some false) fun y => bif bif bif x.x == x.other then x.v != x.xs[x.cells_lo + x.x.toNat]?.getD 0 else false then !y else false then bindO (M41.m { v := x.v,cls := x.cls,cell := x.cell,other := x.other,cells_lo := x.cells_lo,cells_len := x.cells_len,intact := x.intact,xs := x.xs.set (x.cells_lo + x.x.toNat) x.v }) fun y => bindO (M18.m { cls := y.fst,cell := y.snd.fst,other := y.snd.snd.fst,cells_lo := y.snd.snd.snd.fst,cells_len := y.snd.snd.snd.snd.fst,intact := y.snd.snd.snd.snd.snd.fst,xs := y.snd.snd.snd.snd.snd.snd }) fun y => some (y.fst,y.snd.fst,y.snd.snd.fst,y.snd.snd.snd.fst,y.snd.snd.snd.snd.fst,y.snd.snd.snd.snd.snd.fst,y.snd.snd.snd.snd.snd.snd) else bindO (M18.m { cls := x.cls,cell := x.cell,other := x.other,cells_lo := x.cells_lo,cells_len := x.cells_len,intact := x.intact,xs := x.xs.set (x.cells_lo + x.x.toNat) x.v }) fun y => some (y.fst,y.snd.fst,y.snd.snd.fst,y.snd.snd.snd.fst,y.snd.snd.snd.snd.fst,y.snd.snd.snd.snd.snd.fst,y.snd.snd.snd.snd.snd.snd) else none else none else none
else none
theorem m_eq (x : gX) : exec E0 92 C21 0 (initS 0 (g.A x)) (g.H x) (finish 2 ty [] f) = m x := by kernel_rfl
theorem tl : topL C21 0 = [] := by kernel_rfl
theorem known : Known Tryd.prog 21 g f m :=
 mk_known mixed (env_ok ty_ok cl_ok _) s21 rfl rfl tl AllL.nil (fun _ _ => ⟨rfl,rfl⟩) (fun _ _ => ⟨rfl,rfl⟩) m_eq
def con : Con := conG g [.arg 0 0,.cell 0 3] f m default
theorem con_ok : ConOk Tryd.prog 21 con := conG_ok known
end M21
namespace M17
structure gX where
 cls : Int
 cell : Int
 other : Int
 n : Int
def g : Sg gX where
 vs := [.agg [.it .u8,.it .i64,.it .i64],.c (.it .i64)]
 h := []
 to := fun a b => ⟨a.1.1,a.1.2.1,a.1.2.2.1,a.2.1⟩
 fa := fun x => ((x.cls,(x.cell,(x.other,()))),(x.n,()))
 fh := fun x => ()
abbrev fY := Int
def f : Ft fY where
 ord := none
 sh := .c (.it .i64)
 h := []
 to := fun a b => (a)
 fv := fun y => y
 fh := fun y => ()
def cl : List (FuncId × Con) := [(40,M40.con),(39,M39.con)]
theorem cl_ok : allCon Tryd.prog cl := ⟨M40.con_ok,M39.con_ok,trivial⟩
def E0 : Env := ⟨ty,cfOf cl,fun _ => none,none⟩
def m (x : gX) : Option fY := bif decide (x.n < 1) then some 1
else
 bif decide (x.n > 1024) then some 3
 else
  bindO (bif !decide (x.cls ≥ 19) then M39.m { a := x.cell,n := x.n } else some (false,Int.ofNat 0)) fun y =>
   bif bif decide (x.cls ≥ 19) then true else !y.fst then some 1
   else
    bindO (M40.m { c := x.cls }) fun y =>
     bif bif y then x.other != 0 else false then bif bif y then x.other != 0 else false then some 1 else some 0
     else
      bindO (M40.m { c := x.cls }) fun y =>
       bindO (bif !y then M39.m { a := x.other,n := x.n } else some (false,Int.ofNat 0)) fun y_1 =>
        bif bif !y then bif !y_1.fst then true else x.other == x.cell else false then some 1 else some 0
theorem m_eq (x : gX) : exec E0 51 C17 0 (initS 0 (g.A x)) (g.H x) (finish 0 ty [.tmp 4] f) = m x := by kernel_rfl
theorem tl : topL C17 0 = [] := by kernel_rfl
theorem known : Known Tryd.prog 17 g f m :=
 mk_known mixed (env_ok ty_ok cl_ok _) s17 rfl rfl tl AllL.nil (fun _ _ => ⟨rfl,rfl⟩) (fun _ _ => ⟨rfl,rfl⟩) m_eq
def con : Con := conT g f m default
theorem con_ok : ConOk Tryd.prog 17 con := conT_ok known (fun _ => rfl) rfl
end M17
end Go.Proofs.YtogkpjhkpgdbkaaDoor
namespace Go.Proofs.YtogkpjhkpgdbkaaDoor
open Go.Abs
set_option maxRecDepth 100000
namespace M5
structure gX where
 start : List (Int)
 d : List ((Int) × (Int) × Int)
def g : Sg gX where
 vs := [.c (.arr (.int .u8)),.c (.arr (.pair (.int .u8) (.pair (.int .i64) (.int .i64))))]
 h := []
 to := fun a b => ⟨a.1,a.2.1⟩
 fa := fun x => (x.start,(x.d,()))
 fh := fun x => ()
abbrev fY := Int × Int × Int × Int × Nat × Nat × Bool × List (Int)
def f : Ft fY where
 ord := some [1,0]
 sh := .tup [.inl (.ptr 0 0),.inl (.it .i64)]
 h := [.st [.it .u8,.it .i64,.it .i64,.sl 1 0 1,.bo] 1 0,.arr (.int .u8) 0]
 to := fun a b => (a.2.1,b.1.1,b.1.2.1,b.1.2.2.1,b.1.2.2.2.1.1,b.1.2.2.2.1.2,b.1.2.2.2.2.1,b.2.1)
 fv := fun y => ((),(y.1,()))
 fh := fun y => ((y.2.1,(y.2.2.1,(y.2.2.2.1,((y.2.2.2.2.1,y.2.2.2.2.2.1),(y.2.2.2.2.2.2.1,()))))),(y.2.2.2.2.2.2.2,()))
noncomputable def cl : List (FuncId × Con) := [(13,M13a.con),(16,M16.con),(17,M17.con),(18,M18.con)]
theorem cl_ok : allCon Tryd.prog cl := ⟨M13a.con_ok,M16.con_ok,M17.con_ok,M18.con_ok,trivial⟩
noncomputable def E1 : Env := ⟨ty,cfOf cl,fun _ => none,none⟩
structure p0X where
 start : List (Int)
 d : List ((Int) × (Int) × Int)
 n : Int
 i : Int
 xs : List (Int)
 cls : Int
 cell : Int
 other : Int
 cells_lo : Nat
 cells_len : Nat
 intact : Bool
def p0 : Pt p0X where
 own := []
 t := ⟨[(0,.c (.arr (.int .u8))),(6,.c (.ptr 1 0)),(32,.c (.arr (.pair (.int .u8) (.pair (.int .i64) (.int .i64))))),(33,.c (.it .i64)),(34,.c (.it .i64))],[.arr (.int .u8) 0,.st [.it .u8,.it .i64,.it .i64,.sl 0 0 1,.bo] 1 0]⟩
 to := fun v => ⟨v.1.1,v.1.2.2.1,v.1.2.2.2.1,v.1.2.2.2.2.1,v.2.1,v.2.2.1.1,v.2.2.1.2.1,v.2.2.1.2.2.1,v.2.2.1.2.2.2.1.1,v.2.2.1.2.2.2.1.2,v.2.2.1.2.2.2.2.1⟩
 fr := fun x => ((x.start,((),(x.d,(x.n,(x.i,()))))),(x.xs,((x.cls,(x.cell,(x.other,((x.cells_lo,x.cells_len),(x.intact,()))))),())))
structure q0X where
 xs : List (Int)
 cls : Int
 cell : Int
 other : Int
 cells_lo : Nat
 cells_len : Nat
 intact : Bool
def q0 : Pt q0X where
 own := []
 t := ⟨[(6,.c (.ptr 1 0))],[.arr (.int .u8) 0,.st [.it .u8,.it .i64,.it .i64,.sl 0 0 1,.bo] 1 0]⟩
 to := fun v => ⟨v.2.1,v.2.2.1.1,v.2.2.1.2.1,v.2.2.1.2.2.1,v.2.2.1.2.2.2.1.1,v.2.2.1.2.2.2.1.2,v.2.2.1.2.2.2.2.1⟩
 fr := fun x => (((),()),(x.xs,((x.cls,(x.cell,(x.other,((x.cells_lo,x.cells_len),(x.intact,()))))),())))
structure z0X where
 e : Int
def z0 : Pt z0X where
 own := []
 t := ⟨[(4,.c (.np)),(5,.c (.it .i64))],[]⟩
 to := fun v => ⟨v.1.2.1⟩
 fr := fun x => (((),(x.e,())),())
noncomputable def s0 (x : p0X) : Option (p0X ⊕ (q0X ⊕ z0X)) := bif decide (x.i < x.n) then bif inR x.i x.d.length then bindO (M17.m { cls := (x.d[x.i.toNat]?.getD (0,0,0)).fst,cell := (x.d[x.i.toNat]?.getD (0,0,0)).snd.fst,other := (x.d[x.i.toNat]?.getD (0,0,0)).snd.snd,n := (↑x.start.length : Int) }) fun y => bif y != 0 then some (Sum.inr (Sum.inr { e := 1 })) else bif decide ((x.d[x.i.toNat]?.getD (0,0,0)).fst ≤ 1) then bif inR (x.d[x.i.toNat]?.getD (0,0,0)).snd.fst x.cells_len then bif decide (x.cells_lo + Int.toNat (x.d[x.i.toNat]?.getD (0,0,0)).snd.fst < x.xs.length) then bindO (M18.m { cls := (x.d[x.i.toNat]?.getD (0,0,0)).fst,cell := (x.d[x.i.toNat]?.getD (0,0,0)).snd.fst,other := (x.d[x.i.toNat]?.getD (0,0,0)).snd.snd,cells_lo := x.cells_lo,cells_len := x.cells_len,intact := x.intact,xs := x.xs.set (x.cells_lo + Int.toNat (x.d[x.i.toNat]?.getD (0,0,0)).snd.fst) (x.d[x.i.toNat]?.getD (0,0,0)).fst }) fun y => some (Sum.inl { start := x.start,d := x.d,n := x.n,i := IntKind.i64.wrap (x.i + 1),xs := y.snd.snd.snd.snd.snd.snd,cls := y.fst,cell := y.snd.fst,other := y.snd.snd.fst,cells_lo := y.snd.snd.snd.fst,cells_len := y.snd.snd.snd.snd.fst,intact := y.snd.snd.snd.snd.snd.fst }) else none else none else bindO (M18.m { cls := (x.d[x.i.toNat]?.getD (0,0,0)).fst,cell := (x.d[x.i.toNat]?.getD (0,0,0)).snd.fst,other := (x.d[x.i.toNat]?.getD (0,0,0)).snd.snd,cells_lo := x.cells_lo,cells_len := x.cells_len,intact := x.intact,xs := x.xs }) fun y => some (Sum.inl { start := x.start,d := x.d,n := x.n,i := IntKind.i64.wrap (x.i + 1),xs := y.snd.snd.snd.snd.snd.snd,cls := y.fst,cell := y.snd.fst,other := y.snd.snd.fst,cells_lo := y.snd.snd.snd.fst,cells_len := y.snd.snd.snd.snd.fst,intact := y.snd.snd.snd.snd.snd.fst }) else none
else some (Sum.inr (Sum.inl { xs := x.xs,cls := x.cls,cell := x.cell,other := x.other,cells_lo := x.cells_lo,cells_len := x.cells_len,intact := x.intact }))
theorem s0_eq (x : p0X) : exec E1 63 (C5.bodyAt 0) 1 (p0.R x) (p0.H x) (roundK2 0 p0 (.exit 1) q0 .ret z0) = s0 x := by kernel_rfl
noncomputable def l0 : LoopS := mkLoop2 0 p0 (.exit 1) q0 .ret z0 s0
theorem tl0 : topL (C5.bodyAt 0) 1 = [] := by kernel_rfl
theorem l0_ok  : LoopOkS Tryd.prog 63 none 0 (C5.bodyAt 0) l0 := mkLoop2_ok mixed (env_ok ty_ok cl_ok _) (by trivial) (by trivial) (fun _ => rfl) (fun _ => rfl) (fun _ => rfl) (tl0 ▸ AllL.nil) s0_eq
noncomputable def E0 : Env := ⟨ty,cfOf cl,lpOf [(0,l0)],none⟩
noncomputable def m (x : gX) : Option fY := bif (↑x.start.length : Int) == 0 then none
else
 bif bif decide ((↑x.start.length : Int) > 1024) then true else decide ((↑x.d.length : Int) > 1) then none
 else
  bindO (M13a.m { s := x.start }) fun y =>
   bif y then none
   else
    bindO (M16.m { s := x.start }) fun y =>
     bindO
      (iter s0
       {start := x.start,d := x.d,n := (↑x.d.length : Int),i := 0,xs := y.snd.snd,cls := 0,cell := 0,other := 0,cells_lo := y.fst,cells_len := y.snd.fst,
        intact := (↑x.d.length : Int) == 0 })
      fun s => sumC s (fun y => some (0,y.cls,y.cell,y.other,y.cells_lo,y.cells_len,y.intact,y.xs)) fun z => none
theorem m_eq (x : gX) : exec E0 63 C5 0 (initS 0 (g.A x)) (g.H x) (finish 0 ty [.tmp 4,.tmp 5] f) = m x := by kernel_rfl
theorem tl : topL C5 0 = [(0,C5.bodyAt 0)] := by kernel_rfl
theorem known : Known Tryd.prog 5 g f m :=
 mk_known mixed (env_ok ty_ok cl_ok _) s5 rfl rfl tl (AllL.cons rfl l0_ok AllL.nil) (fun _ _ => ⟨rfl,rfl⟩) (fun _ _ => ⟨rfl,rfl⟩) m_eq
noncomputable def con : Con := conG g [] f m default
theorem con_ok : ConOk Tryd.prog 5 con := conG_ok known
end M5
namespace M6
structure gX where
 addr : Int
 v : Int
 cls : Int
 cell : Int
 other : Int
 cells_lo : Nat
 cells_len : Nat
 intact : Bool
 xs : List (Int)
def g : Sg gX where
 vs := [.c (.ptr 0 0),.c (.it .i64),.c (.it .u8)]
 h := [.st [.it .u8,.it .i64,.it .i64,.sl 1 0 1,.bo] 1 0,.arr (.int .u8) 0]
 to := fun a b => ⟨a.2.1,a.2.2.1,b.1.1,b.1.2.1,b.1.2.2.1,b.1.2.2.2.1.1,b.1.2.2.2.1.2,b.1.2.2.2.2.1,b.2.1⟩
 fa := fun x => ((),(x.addr,(x.v,())))
 fh := fun x => ((x.cls,(x.cell,(x.other,((x.cells_lo,x.cells_len),(x.intact,()))))),(x.xs,()))
abbrev fY := Int × Int × Int × Int × Nat × Nat × Bool × List (Int)
def f : Ft fY where
 ord := none
 sh := .c (.it .i64)
 h := [.st [.it .u8,.it .i64,.it .i64,.sl 1 0 1,.bo] 1 0,.arr (.int .u8) 0]
 to := fun a b => (a,b.1.1,b.1.2.1,b.1.2.2.1,b.1.2.2.2.1.1,b.1.2.2.2.1.2,b.1.2.2.2.2.1,b.2.1)
 fv := fun y => y.1
 fh := fun y => ((y.2.1,(y.2.2.1,(y.2.2.2.1,((y.2.2.2.2.1,y.2.2.2.2.2.1),(y.2.2.2.2.2.2.1,()))))),(y.2.2.2.2.2.2.2,()))
def cl : List (FuncId × Con) := [(19,M19.con),(15,M15.con),(20,M20.con),(21,M21.con)]
theorem cl_ok : allCon Tryd.prog cl := ⟨M19.con_ok,M15.con_ok,M20.con_ok,M21.con_ok,trivial⟩
def E1 : Env := ⟨ty,cfOf cl,fun _ => none,none⟩
structure p0X where
 v : Int
 l : List (Int)
 n : Int
 i : Int
 cls : Int
 cell : Int
 other : Int
 cells_lo : Nat
 cells_len : Nat
 intact : Bool
 xs : List (Int)
def p0 : Pt p0X where
 own := []
 t := ⟨[(0,.c (.ptr 0 0)),(2,.c (.it .u8)),(25,.c (.arr (.int .i64))),(26,.c (.it .i64)),(27,.c (.it .i64))],[.st [.it .u8,.it .i64,.it .i64,.sl 1 0 1,.bo] 1 0,.arr (.int .u8) 0]⟩
 to := fun v => ⟨v.1.2.1,v.1.2.2.1,v.1.2.2.2.1,v.1.2.2.2.2.1,v.2.1.1,v.2.1.2.1,v.2.1.2.2.1,v.2.1.2.2.2.1.1,v.2.1.2.2.2.1.2,v.2.1.2.2.2.2.1,v.2.2.1⟩
 fr := fun x => (((),(x.v,(x.l,(x.n,(x.i,()))))),((x.cls,(x.cell,(x.other,((x.cells_lo,x.cells_len),(x.intact,()))))),(x.xs,())))
structure q0X where
 cls : Int
 cell : Int
 other : Int
 cells_lo : Nat
 cells_len : Nat
 intact : Bool
 xs : List (Int)
def q0 : Pt q0X where
 own := []
 t := ⟨[],[.st [.it .u8,.it .i64,.it .i64,.sl 1 0 1,.bo] 1 0,.arr (.int .u8) 0]⟩
 to := fun v => ⟨v.2.1.1,v.2.1.2.1,v.2.1.2.2.1,v.2.1.2.2.2.1.1,v.2.1.2.2.2.1.2,v.2.1.2.2.2.2.1,v.2.2.1⟩
 fr := fun x => ((),((x.cls,(x.cell,(x.other,((x.cells_lo,x.cells_len),(x.intact,()))))),(x.xs,())))
def s0 (x : p0X) : Option (p0X ⊕ q0X) := bif decide (x.i < x.n) then bif inR x.i x.l.length then bindO (M21.m { x := x.l[x.i.toNat]?.getD 0,v := x.v,cls := x.cls,cell := x.cell,other := x.other,cells_lo := x.cells_lo,cells_len := x.cells_len,intact := x.intact,xs := x.xs }) fun y => some (Sum.inl { v := x.v,l := x.l,n := x.n,i := IntKind.i64.wrap (x.i + 1),cls := y.fst,cell := y.snd.fst,other := y.snd.snd.fst,cells_lo := y.snd.snd.snd.fst,cells_len := y.snd.snd.snd.snd.fst,intact := y.snd.snd.snd.snd.snd.fst,xs := y.snd.snd.snd.snd.snd.snd }) else none
else some (Sum.inr { cls := x.cls,cell := x.cell,other := x.other,cells_lo := x.cells_lo,cells_len := x.cells_len,intact := x.intact,xs := x.xs })
theorem s0_eq (x : p0X) : exec E1 36 (C6.bodyAt 0) 1 (p0.R x) (p0.H x) (roundK 2 p0 (.exit 0) q0) = s0 x := by kernel_rfl
noncomputable def l0 : LoopS := mkLoop 2 p0 (.exit 0) q0 s0
theorem tl0 : topL (C6.bodyAt 0) 1 = [] := by kernel_rfl
theorem l0_ok  : LoopOkS Tryd.prog 36 none 2 (C6.bodyAt 0) l0 := mkLoop_ok mixed (env_ok ty_ok cl_ok _) (by trivial) (fun _ => rfl) (fun _ => rfl) (tl0 ▸ AllL.nil) s0_eq
noncomputable def E0 : Env := ⟨ty,cfOf cl,lpOf [(0,l0)],none⟩
noncomputable def m (x : gX) : Option fY := bindO (M19.m { addr := x.addr,cls := x.cls,cell := x.cell,other := x.other,cells_lo := x.cells_lo,cells_len := x.cells_len,intact := x.intact,xs := x.xs }) fun y => bindO (bif y.fst == 0 then M15.m { v := x.v } else some false) fun y_1 => bif (bif bif y.fst == 0 then !y_1 else false then 1 else y.fst) != 0 then some (bif bif y.fst == 0 then !y_1 else false then 1 else y.fst,y.snd.fst,y.snd.snd.fst,y.snd.snd.snd.fst,y.snd.snd.snd.snd.fst,y.snd.snd.snd.snd.snd.fst,y.snd.snd.snd.snd.snd.snd.fst,y.snd.snd.snd.snd.snd.snd.snd) else bindO (M20.m { addr := x.addr,cls := y.snd.fst,cell := y.snd.snd.fst,other := y.snd.snd.snd.fst,cells_lo := y.snd.snd.snd.snd.fst,cells_len := y.snd.snd.snd.snd.snd.fst,intact := y.snd.snd.snd.snd.snd.snd.fst,xs := y.snd.snd.snd.snd.snd.snd.snd }) fun y => bindO (iter s0 { v := x.v,l := y.fst,n := (↑y.fst.length : Int),i := 0,cls := y.snd.fst,cell := y.snd.snd.fst,other := y.snd.snd.snd.fst,cells_lo := y.snd.snd.snd.snd.fst,cells_len := y.snd.snd.snd.snd.snd.fst,intact := y.snd.snd.snd.snd.snd.snd.fst,xs := y.snd.snd.snd.snd.snd.snd.snd }) fun y => some (0,y.cls,y.cell,y.other,y.cells_lo,y.cells_len,y.intact,y.xs)
theorem m_eq (x : gX) : exec E0 36 C6 0 (initS 0 (g.A x)) (g.H x) (finish 2 ty [.tmp 6] f) = m x := by kernel_rfl
theorem tl : topL C6 0 = [(0,C6.bodyAt 0)] := by kernel_rfl
theorem known : Known Tryd.prog 6 g f m :=
 mk_known mixed (env_ok ty_ok cl_ok _) s6 rfl rfl tl (AllL.cons rfl l0_ok AllL.nil) (fun _ _ => ⟨rfl,rfl⟩) (fun _ _ => ⟨rfl,rfl⟩) m_eq
noncomputable def con : Con := conG g [.arg 0 0,.cell 0 3] f m default
theorem con_ok : ConOk Tryd.prog 6 con := conG_ok known
end M6
namespace M8
structure gX where
 addr : Int
 cls : Int
 cell : Int
 other : Int
 cells_lo : Nat
 cells_len : Nat
 intact : Bool
 xs : List (Int)
def g : Sg gX where
 vs := [.c (.ptr 0 0),.c (.it .i64)]
 h := [.st [.it .u8,.it .i64,.it .i64,.sl 1 0 1,.bo] 1 0,.arr (.int .u8) 0]
 to := fun a b => ⟨a.2.1,b.1.1,b.1.2.1,b.1.2.2.1,b.1.2.2.2.1.1,b.1.2.2.2.1.2,b.1.2.2.2.2.1,b.2.1⟩
 fa := fun x => ((),(x.addr,()))
 fh := fun x => ((x.cls,(x.cell,(x.other,((x.cells_lo,x.cells_len),(x.intact,()))))),(x.xs,()))
abbrev fY := Int × Int × Int × Int × Int × Nat × Nat × Bool × List (Int)
def f : Ft fY where
 ord := none
 sh := .tup [.inl (.it .u8),.inl (.it .i64)]
 h := [.st [.it .u8,.it .i64,.it .i64,.sl 1 0 1,.bo] 1 0,.arr (.int .u8) 0]
 to := fun a b => (a.1,a.2.1,b.1.1,b.1.2.1,b.1.2.2.1,b.1.2.2.2.1.1,b.1.2.2.2.1.2,b.1.2.2.2.2.1,b.2.1)
 fv := fun y => (y.1,(y.2.1,()))
 fh := fun y => ((y.2.2.1,(y.2.2.2.1,(y.2.2.2.2.1,((y.2.2.2.2.2.1,y.2.2.2.2.2.2.1),(y.2.2.2.2.2.2.2.1,()))))),(y.2.2.2.2.2.2.2.2,()))
def cl : List (FuncId × Con) := [(19,M19.con),(20,M20.con)]
theorem cl_ok : allCon Tryd.prog cl := ⟨M19.con_ok,M20.con_ok,trivial⟩
def E0 : Env := ⟨ty,cfOf cl,fun _ => none,none⟩
def m (x : gX) : Option fY := bindO (M19.m { addr := x.addr,cls := x.cls,cell := x.cell,other := x.other,cells_lo := x.cells_lo,cells_len := x.cells_len,intact := x.intact,xs := x.xs }) fun y => bif y.fst != 0 then some (0,y.fst,y.snd.fst,y.snd.snd.fst,y.snd.snd.snd.fst,y.snd.snd.snd.snd.fst,y.snd.snd.snd.snd.snd.fst,y.snd.snd.snd.snd.snd.snd.fst,y.snd.snd.snd.snd.snd.snd.snd) else bindO (M20.m { addr := x.addr,cls := y.snd.fst,cell := y.snd.snd.fst,other := y.snd.snd.snd.fst,cells_lo := y.snd.snd.snd.snd.fst,cells_len := y.snd.snd.snd.snd.snd.fst,intact := y.snd.snd.snd.snd.snd.snd.fst,xs := y.snd.snd.snd.snd.snd.snd.snd }) fun y => bif (↑y.fst.length : Int) == 0 then some (IntKind.u8.wrap (y.snd.fst - 14),0,y.snd.fst,y.snd.snd.fst,y.snd.snd.snd.fst,y.snd.snd.snd.snd.fst,y.snd.snd.snd.snd.snd.fst,y.snd.snd.snd.snd.snd.snd.fst,y.snd.snd.snd.snd.snd.snd.snd) else bif bif (↑y.fst.length : Int) == 2 then y.snd.fst == 17 else false then bif inR 0 y.fst.length then bif inR (y.fst[0]?.getD 0) y.snd.snd.snd.snd.snd.fst then bif decide (y.snd.snd.snd.snd.fst + Int.toNat (y.fst[0]?.getD 0) < y.snd.snd.snd.snd.snd.snd.snd.length) then bif inR 1 y.fst.length then bif inR (y.fst[1]?.getD 0) y.snd.snd.snd.snd.snd.fst then bif decide (y.snd.snd.snd.snd.fst + Int.toNat (y.fst[1]?.getD 0) < y.snd.snd.snd.snd.snd.snd.snd.length) then some (IntKind.u8.wrap (↑(BitVec.ofInt 8 (y.snd.snd.snd.snd.snd.snd.snd[y.snd.snd.snd.snd.fst + Int.toNat (y.fst[0]?.getD 0)]?.getD 0) &&& BitVec.ofInt 8 (y.snd.snd.snd.snd.snd.snd.snd[y.snd.snd.snd.snd.fst + Int.toNat (y.fst[1]?.getD 0)]?.getD 0)).toNat : Int),0,y.snd.fst,y.snd.snd.fst,y.snd.snd.snd.fst,y.snd.snd.snd.snd.fst,y.snd.snd.snd.snd.snd.fst,y.snd.snd.snd.snd.snd.snd.fst,y.snd.snd.snd.snd.snd.snd.snd) else none else none else none else none else none else none else bif (↑y.fst.length : Int) == 2 then bif inR 0 y.fst.length then bif inR (y.fst[0]?.getD 0) y.snd.snd.snd.snd.snd.fst then bif decide (y.snd.snd.snd.snd.fst + Int.toNat (y.fst[0]?.getD 0) < y.snd.snd.snd.snd.snd.snd.snd.length) then bif inR 1 y.fst.length then bif inR (y.fst[1]?.getD 0) y.snd.snd.snd.snd.snd.fst then bif decide (y.snd.snd.snd.snd.fst + Int.toNat (y.fst[1]?.getD 0) < y.snd.snd.snd.snd.snd.snd.snd.length) then some (IntKind.u8.wrap (↑(BitVec.ofInt 8 (y.snd.snd.snd.snd.snd.snd.snd[y.snd.snd.snd.snd.fst + Int.toNat (y.fst[0]?.getD 0)]?.getD 0) ||| BitVec.ofInt 8 (y.snd.snd.snd.snd.snd.snd.snd[y.snd.snd.snd.snd.fst + Int.toNat (y.fst[1]?.getD 0)]?.getD 0)).toNat : Int),0,y.snd.fst,y.snd.snd.fst,y.snd.snd.snd.fst,y.snd.snd.snd.snd.fst,y.snd.snd.snd.snd.snd.fst,y.snd.snd.snd.snd.snd.snd.fst,y.snd.snd.snd.snd.snd.snd.snd) else none else none else none else none else none else none else bif inR 0 y.fst.length then bif inR (y.fst[0]?.getD 0) y.snd.snd.snd.snd.snd.fst then bif decide (y.snd.snd.snd.snd.fst + Int.toNat (y.fst[0]?.getD 0) < y.snd.snd.snd.snd.snd.snd.snd.length) then some (y.snd.snd.snd.snd.snd.snd.snd[y.snd.snd.snd.snd.fst + Int.toNat (y.fst[0]?.getD 0)]?.getD 0,0,y.snd.fst,y.snd.snd.fst,y.snd.snd.snd.fst,y.snd.snd.snd.snd.fst,y.snd.snd.snd.snd.snd.fst,y.snd.snd.snd.snd.snd.snd.fst,y.snd.snd.snd.snd.snd.snd.snd) else none else none else none
theorem m_eq (x : gX) : exec E0 90 C8 0 (initS 0 (g.A x)) (g.H x) (finish 2 ty [.tmp 4,.tmp 5] f) = m x := by kernel_rfl
theorem tl : topL C8 0 = [] := by kernel_rfl
theorem known : Known Tryd.prog 8 g f m :=
 mk_known mixed (env_ok ty_ok cl_ok _) s8 rfl rfl tl AllL.nil (fun _ _ => ⟨rfl,rfl⟩) (fun _ _ => ⟨rfl,rfl⟩) m_eq
def con : Con := conG g [.arg 0 0,.cell 0 3] f m default
theorem con_ok : ConOk Tryd.prog 8 con := conG_ok known
end M8
end Go.Proofs.YtogkpjhkpgdbkaaDoor
