/-
  What the proof stands on.
-/
import Derived.Test.YtnmlmdlhhphcoaaER4QE9
import Derived.Test.YtnmlmdlhhphcoaaER4QEx
import Derived.Test.YtnmlmdlhhphcoaaER4QEk
set_option linter.all false
namespace Go.Proofs.Ytnmlmdlhhphcoaa
open Go.Abs
set_option maxRecDepth 100000
namespace M20
structure gX where
 l : List (Int)
 i : Int
 v : Int
def g : Sg gX where
 vs := [.c (.arr (.int .u8)),.c (.it .i64),.c (.it .u8)]
 h := []
 to := fun a b => ⟨a.1,a.2.1,a.2.2.1⟩
 fa := fun x => (x.l,(x.i,(x.v,())))
 fh := fun x => ()
abbrev fY := Int
def f : Ft fY where
 ord := none
 sh := .c (.it .u8)
 h := []
 to := fun a b => (a)
 fv := fun y => y
 fh := fun y => ()
def cl : List (FuncId × Con) := []
theorem cl_ok : allCon Try.prog cl := trivial
def E0 : Env := ⟨ty,cfOf cl,fun _ => none,none⟩
def m (x : gX) : Option fY := bif inR x.i x.l.length then bif x.l[x.i.toNat]?.getD 0 != 2 then bif inR x.i x.l.length then some (x.l[x.i.toNat]?.getD 0) else none else some x.v else none
theorem m_eq (x : gX) : exec E0 17 C20 0 (initS 0 (g.A x)) (g.H x) (finish 0 ty [.tmp 6] f) = m x := by kernel_rfl
theorem tl : topL C20 0 = [] := by kernel_rfl
theorem known : Known Try.prog 20 g f m :=
 mk_known mixed (env_ok ty_ok cl_ok _) s20 rfl rfl tl AllL.nil (fun _ _ => ⟨rfl,rfl⟩) (fun _ _ => ⟨rfl,rfl⟩) m_eq
def con : Con := conT g f m default
theorem con_ok : ConOk Try.prog 20 con := conT_ok known (fun _ => rfl) rfl
end M20
namespace M21
structure gX where
 l : List (Int)
 i : Int
def g : Sg gX where
 vs := [.c (.arr (.int .u8)),.c (.it .i64)]
 h := []
 to := fun a b => ⟨a.1,a.2.1⟩
 fa := fun x => (x.l,(x.i,()))
 fh := fun x => ()
abbrev fY := Int
def f : Ft fY where
 ord := none
 sh := .c (.it .u8)
 h := []
 to := fun a b => (a)
 fv := fun y => y
 fh := fun y => ()
def cl : List (FuncId × Con) := []
theorem cl_ok : allCon Try.prog cl := trivial
def E2 : Env := ⟨ty,cfOf cl,fun _ => none,none⟩
structure p1X where
 l : List (Int)
 k : Int
def p1 : Pt p1X where
 own := []
 t := ⟨[(0,.c (.arr (.int .u8))),(6,.c (.it .i64))],[]⟩
 to := fun v => ⟨v.1.1,v.1.2.1⟩
 fr := fun x => ((x.l,(x.k,())),())
abbrev q1X := Unit
def q1 : Pt q1X where
 own := []
 t := ⟨[],[]⟩
 to := fun v => ()
 fr := fun x => ((),())
structure z1X where
 r : Int
def z1 : Pt z1X where
 own := []
 t := ⟨[(4,.c (.it .u8))],[]⟩
 to := fun v => ⟨v.1.1⟩
 fr := fun x => ((x.r,()),())
def s1 (x : p1X) : Option (p1X ⊕ (q1X ⊕ z1X)) := bif decide (x.k < (↑x.l.length : Int)) then bif inR x.k x.l.length then bif x.l[x.k.toNat]?.getD 0 != 2 then bif inR x.k x.l.length then some (Sum.inr (Sum.inr { r := x.l[x.k.toNat]?.getD 0 })) else none else some (Sum.inl { l := x.l,k := IntKind.i64.wrap (x.k + 1) }) else none
else some (Sum.inr (Sum.inl PUnit.unit))
theorem s1_eq (x : p1X) : exec E2 36 (C21.bodyAt 1) 2 (p1.R x) (p1.H x) (roundK2 0 p1 (.exit 2) q1 .ret z1) = s1 x := by kernel_rfl
noncomputable def l1 : LoopS := mkLoop2 0 p1 (.exit 2) q1 .ret z1 s1
theorem tl1 : topL (C21.bodyAt 1) 2 = [] := by kernel_rfl
theorem l1_ok  : LoopOkS Try.prog 36 none 0 (C21.bodyAt 1) l1 := mkLoop2_ok mixed (env_ok ty_ok cl_ok _) (by trivial) (by trivial) (fun _ => rfl) (fun _ => rfl) (fun _ => rfl) (tl1 ▸ AllL.nil) s1_eq
noncomputable def E1 : Env := ⟨ty,cfOf cl,lpOf [(1,l1)],none⟩
structure p0X where
 l : List (Int)
 k : Int
def p0 : Pt p0X where
 own := []
 t := ⟨[(0,.c (.arr (.int .u8))),(5,.c (.it .i64))],[]⟩
 to := fun v => ⟨v.1.1,v.1.2.1⟩
 fr := fun x => ((x.l,(x.k,())),())
structure q0X where
 l : List (Int)
def q0 : Pt q0X where
 own := []
 t := ⟨[(0,.c (.arr (.int .u8)))],[]⟩
 to := fun v => ⟨v.1.1⟩
 fr := fun x => ((x.l,()),())
structure z0X where
 r : Int
def z0 : Pt z0X where
 own := []
 t := ⟨[(4,.c (.it .u8))],[]⟩
 to := fun v => ⟨v.1.1⟩
 fr := fun x => ((x.r,()),())
def s0 (x : p0X) : Option (p0X ⊕ (q0X ⊕ z0X)) := bif decide (x.k ≥ 0) then bif inR x.k x.l.length then bif x.l[x.k.toNat]?.getD 0 != 2 then bif inR x.k x.l.length then some (Sum.inr (Sum.inr { r := x.l[x.k.toNat]?.getD 0 })) else none else some (Sum.inl { l := x.l,k := IntKind.i64.wrap (x.k - 1) }) else none
else some (Sum.inr (Sum.inl { l := x.l }))
theorem s0_eq (x : p0X) : exec E1 36 (C21.bodyAt 0) 1 (p0.R x) (p0.H x) (roundK2 0 p0 (.exit 0) q0 .ret z0) = s0 x := by kernel_rfl
noncomputable def l0 : LoopS := mkLoop2 0 p0 (.exit 0) q0 .ret z0 s0
theorem tl0 : topL (C21.bodyAt 0) 1 = [] := by kernel_rfl
theorem l0_ok  : LoopOkS Try.prog 36 none 0 (C21.bodyAt 0) l0 := mkLoop2_ok mixed (env_ok ty_ok cl_ok _) (by trivial) (by trivial) (fun _ => rfl) (fun _ => rfl) (fun _ => rfl) (tl0 ▸ AllL.nil) s0_eq
noncomputable def E0 : Env := ⟨ty,cfOf cl,lpOf [(0,l0),(1,l1)],none⟩
noncomputable def m (x : gX) : Option fY := bindO (iter s0 { l := x.l,k := x.i }) fun s => sumC s (fun y => bindO (iter s1 { l := y.l,k := 0 }) fun s => sumC s (fun y => some 0) fun z => some z.r) fun z => some z.r
theorem m_eq (x : gX) : exec E0 36 C21 0 (initS 0 (g.A x)) (g.H x) (finish 0 ty [.tmp 4] f) = m x := by kernel_rfl
theorem tl : topL C21 0 = [(0,C21.bodyAt 0),(1,C21.bodyAt 1)] := by kernel_rfl
theorem known : Known Try.prog 21 g f m :=
 mk_known mixed (env_ok ty_ok cl_ok _) s21 rfl rfl tl (AllL.cons rfl l0_ok (AllL.cons rfl l1_ok AllL.nil)) (fun _ _ => ⟨rfl,rfl⟩) (fun _ _ => ⟨rfl,rfl⟩) m_eq
noncomputable def con : Con := conT g f m default
theorem con_ok : ConOk Try.prog 21 con := conT_ok known (fun _ => rfl) rfl
end M21
end Go.Proofs.Ytnmlmdlhhphcoaa
namespace Go.Proofs.Ytnmlmdlhhphcoaa
open Go.Abs
set_option maxRecDepth 100000
namespace M10
abbrev gX := Unit
def g : Sg gX where
 vs := []
 h := []
 to := fun a b => ()
 fa := fun x => ()
 fh := fun x => ()
abbrev fY := Bool
def f : Ft fY where
 ord := none
 sh := .c (.bo)
 h := []
 to := fun a b => (a)
 fv := fun y => y
 fh := fun y => ()
noncomputable def cl : List (FuncId × Con) := [(31,M31.con),(13,M13.con),(19,M19.con),(30,M30.con),(23,M23.con),(17,M17.con),(18,M18.con),(27,M27.con),(26,M26.con)]
theorem cl_ok : allCon Try.prog cl := ⟨M31.con_ok,M13.con_ok,M19.con_ok,M30.con_ok,M23.con_ok,M17.con_ok,M18.con_ok,M27.con_ok,M26.con_ok,trivial⟩
noncomputable def E0 : Env := ⟨ty,cfOf cl,fun _ => none,none⟩
noncomputable def m (x : gX) : Option fY := bindO (M31.m { s := [48,88,88,124,49] }) fun y => bindO (M31.m { s := [48,88,49,124,88] }) fun y_1 => bindO (M13.m { ai := y.fst,as_ := y.snd,bi := y_1.fst,bs := y_1.snd }) fun y => bindO (M31.m { s := [48,88,124] }) fun y_2 => bindO (M31.m { s := [49,88,124] }) fun y_3 => bindO (M13.m { ai := y_2.fst,as_ := y_2.snd,bi := y_3.fst,bs := y_3.snd }) fun y_4 => bindO (M31.m { s := [88,88,49,88,124,48,88] }) fun y_5 => bindO (M19.m { i := y_5.fst,s := y_5.snd,w := 2 }) fun y_6 => bindO (M31.m { s := [88,88,49,88,124,48,88] }) fun y_7 => bindO (M19.m { i := y_7.fst,s := y_7.snd,w := 1 }) fun y_8 => bindO (M31.m { s := [88,48,124,88] }) fun y_9 => bindO (M30.m { i := y_9.fst,s := y_9.snd }) fun y_10 => bindO (bif !y.snd.snd != 0 then M26.m { i := y.fst,s := y.snd.fst } else some []) fun y_11 => bindO (bif !bif bif y.snd.snd != 0 then true else !y_11 == [48,88,49,124,49] then true else y_4.snd.snd != 9 then M31.m { s := [48,49,88,124,49] } else some ([],[])) fun y_12 => bindO (bif !bif bif y.snd.snd != 0 then true else !y_11 == [48,88,49,124,49] then true else y_4.snd.snd != 9 then M31.m { s := [49,48,88,124,88] } else some ([],[])) fun y_13 => bindO (bif !bif bif y.snd.snd != 0 then true else !y_11 == [48,88,49,124,49] then true else y_4.snd.snd != 9 then M18.m { ai := y_12.fst,as_ := y_12.snd,bi := y_13.fst,bs := y_13.snd } else some (Int.ofNat 0)) fun y_14 => bindO (bif !bif bif bif bif y.snd.snd != 0 then true else !y_11 == [48,88,49,124,49] then true else y_4.snd.snd != 9 then true else y_14 != 2 then true else y_6.snd.snd != 0 then M26.m { i := y_6.fst,s := y_6.snd.fst } else some []) fun y_15 => bindO (bif !bif bif bif bif bif bif y.snd.snd != 0 then true else !y_11 == [48,88,49,124,49] then true else y_4.snd.snd != 9 then true else y_14 != 2 then true else y_6.snd.snd != 0 then true else !y_15 == [49,49,49,49,124,48,48] then true else y_8.snd.snd != 0 then M26.m { i := y_8.fst,s := y_8.snd.fst } else some []) fun y_16 => bif inR 1 y_10.fst.length || !!bif bif bif bif bif bif bif bif bif y.snd.snd != 0 then true else !y_11 == [48,88,49,124,49] then true else y_4.snd.snd != 9 then true else y_14 != 2 then true else y_6.snd.snd != 0 then true else !y_15 == [49,49,49,49,124,48,48] then true else y_8.snd.snd != 0 then true else !y_16 == [49,49,49,49,124,48,49] then true else y_10.snd != 0 then true else (↑y_10.fst.length : Int) != 4 then bindO (bif !bif bif bif bif bif bif bif bif bif y.snd.snd != 0 then true else !y_11 == [48,88,49,124,49] then true else y_4.snd.snd != 9 then true else y_14 != 2 then true else y_6.snd.snd != 0 then true else !y_15 == [49,49,49,49,124,48,48] then true else y_8.snd.snd != 0 then true else !y_16 == [49,49,49,49,124,48,49] then true else y_10.snd != 0 then true else (↑y_10.fst.length : Int) != 4 then M26.m { i := (y_10.fst[1]?.getD ([],[])).fst,s := (y_10.fst[1]?.getD ([],[])).snd } else some []) fun y_17 => bif inR 2 y_10.fst.length || !!bif bif bif bif bif bif bif bif bif bif y.snd.snd != 0 then true else !y_11 == [48,88,49,124,49] then true else y_4.snd.snd != 9 then true else y_14 != 2 then true else y_6.snd.snd != 0 then true else !y_15 == [49,49,49,49,124,48,48] then true else y_8.snd.snd != 0 then true else !y_16 == [49,49,49,49,124,48,49] then true else y_10.snd != 0 then true else (↑y_10.fst.length : Int) != 4 then true else !y_17 == [48,48,124,49] then bindO (bif !bif bif bif bif bif bif bif bif bif bif y.snd.snd != 0 then true else !y_11 == [48,88,49,124,49] then true else y_4.snd.snd != 9 then true else y_14 != 2 then true else y_6.snd.snd != 0 then true else !y_15 == [49,49,49,49,124,48,48] then true else y_8.snd.snd != 0 then true else !y_16 == [49,49,49,49,124,48,49] then true else y_10.snd != 0 then true else (↑y_10.fst.length : Int) != 4 then true else !y_17 == [48,48,124,49] then M26.m { i := (y_10.fst[2]?.getD ([],[])).fst,s := (y_10.fst[2]?.getD ([],[])).snd } else some []) fun y_18 => bif bif bif bif bif bif bif bif bif bif bif bif y.snd.snd != 0 then true else !y_11 == [48,88,49,124,49] then true else y_4.snd.snd != 9 then true else y_14 != 2 then true else y_6.snd.snd != 0 then true else !y_15 == [49,49,49,49,124,48,48] then true else y_8.snd.snd != 0 then true else !y_16 == [49,49,49,49,124,48,49] then true else y_10.snd != 0 then true else (↑y_10.fst.length : Int) != 4 then true else !y_17 == [48,48,124,49] then true else !y_18 == [49,48,124,48] then some false else bindO (M31.m { s := [48,49,49,124,48] }) fun y => bindO (M23.m { i := y.fst,s := y.snd,l := [0,3] }) fun y => bindO (M27.m { s := [48,49] }) fun y_19 => bindO (M27.m { s := [48,124,50] }) fun y_20 => bindO (M27.m { s := [124] }) fun y_21 => bindO (M31.m { s := [88,49,124] }) fun y_22 => bindO (M31.m { s := [48,49,124] }) fun y_23 => bindO (M17.m { ai := y_22.fst,as_ := y_22.snd,bi := y_23.fst,bs := y_23.snd }) fun y_24 => bindO (bif y_24 then M31.m { s := [48,49,124] } else some ([],[])) fun y_25 => bindO (bif y_24 then M31.m { s := [88,49,124] } else some ([],[])) fun y_26 => bindO (bif y_24 then M17.m { ai := y_25.fst,as_ := y_25.snd,bi := y_26.fst,bs := y_26.snd } else some false) fun y_27 => bindO (bif bif bif y_24 then !y_27 else false then y.snd.snd == 0 else false then M26.m { i := y.fst,s := y.snd.fst } else some []) fun y_28 => some (bif bif bif bif bif bif bif y_24 then !y_27 else false then y.snd.snd == 0 else false then y_28 == [88,49,49,124,88] else false then y_19.snd.snd == 4 else false then y_20.snd.snd == 4 else false then y_21.snd.snd == 0 else false then IntKind.i64.wrap ((↑y_21.fst.length : Int) + (↑y_21.snd.fst.length : Int)) == 0 else false) else none else none
theorem m_eq (x : gX) : exec E0 162 C10 0 (initS 0 (g.A x)) (g.H x) (finish 0 ty [.tmp 0] f) = m x := by kernel_rfl
theorem tl : topL C10 0 = [] := by kernel_rfl
theorem known : Known Try.prog 10 g f m :=
 mk_known mixed (env_ok ty_ok cl_ok _) s10 rfl rfl tl AllL.nil (fun _ _ => ⟨rfl,rfl⟩) (fun _ _ => ⟨rfl,rfl⟩) m_eq
noncomputable def con : Con := conT g f m default
theorem con_ok : ConOk Try.prog 10 con := conT_ok known (fun _ => rfl) rfl
end M10
end Go.Proofs.Ytnmlmdlhhphcoaa
namespace Go.Proofs.Ytnmlmdlhhphcoaa
open Go.Abs
set_option maxRecDepth 100000
end Go.Proofs.Ytnmlmdlhhphcoaa
namespace Go.Proofs.Ytnmlmdlhhphcoaa
open Go.Abs
set_option maxRecDepth 100000
end Go.Proofs.Ytnmlmdlhhphcoaa
namespace Go.Proofs.Ytnmlmdlhhphcoaa
open Go.Abs
set_option maxRecDepth 100000
end Go.Proofs.Ytnmlmdlhhphcoaa
namespace Go.Proofs.Ytnmlmdlhhphcoaa
open Go.Abs
set_option maxRecDepth 100000
namespace M51o
structure gX where
 s_lo : Nat
 s_len : Nat
 ls : List (Int)
 pi : List (Int)
 ps : List (Int)
def g : Sg gX where
 vs := [.c (.sl 0 0 1),.c (.clo 43 [⟨1,0,0⟩])]
 h := [.arr (.int .i64) 0,.st [.arr (.int .u8),.arr (.int .u8)] 1 0]
 to := fun a b => ⟨a.1.1,a.1.2,b.1,b.2.1.1,b.2.1.2.1⟩
 fa := fun x => ((x.s_lo,x.s_len),((),()))
 fh := fun x => (x.ls,((x.pi,(x.ps,())),()))
abbrev fY := Int × List (Int) × List (Int) × List (Int)
def f : Ft fY where
 ord := none
 sh := .c (.it .i64)
 h := [.arr (.int .i64) 0,.st [.arr (.int .u8),.arr (.int .u8)] 1 0]
 to := fun a b => (a,b.1,b.2.1.1,b.2.1.2.1)
 fv := fun y => y.1
 fh := fun y => (y.2.1,((y.2.2.1,(y.2.2.2,())),()))
def cl : List (FuncId × Con) := [(43,M43.con)]
theorem cl_ok : allCon Try.prog cl := ⟨M43.con_ok,trivial⟩
def E1 : Env := ⟨ty,cfOf cl,fun _ => none,none⟩
structure p0X where
 s_lo : Nat
 s_len : Nat
 n : Int
 i : Int
 ls : List (Int)
 pi : List (Int)
 ps : List (Int)
def p0 : Pt p0X where
 own := []
 t := ⟨[(0,.c (.sl 0 0 1)),(1,.c (.clo 43 [⟨1,0,0⟩])),(7,.c (.it .i64)),(8,.c (.it .i64))],[.arr (.int .i64) 0,.st [.arr (.int .u8),.arr (.int .u8)] 1 0]⟩
 to := fun v => ⟨v.1.1.1,v.1.1.2,v.1.2.2.1,v.1.2.2.2.1,v.2.1,v.2.2.1.1,v.2.2.1.2.1⟩
 fr := fun x => (((x.s_lo,x.s_len),((),(x.n,(x.i,())))),(x.ls,((x.pi,(x.ps,())),())))
structure q0X where
 ls : List (Int)
 pi : List (Int)
 ps : List (Int)
def q0 : Pt q0X where
 own := []
 t := ⟨[],[.arr (.int .i64) 0,.st [.arr (.int .u8),.arr (.int .u8)] 1 0]⟩
 to := fun v => ⟨v.2.1,v.2.2.1.1,v.2.2.1.2.1⟩
 fr := fun x => ((),(x.ls,((x.pi,(x.ps,())),())))
structure z0X where
 r : Int
 ls : List (Int)
 pi : List (Int)
 ps : List (Int)
def z0 : Pt z0X where
 own := []
 t := ⟨[(4,.c (.it .i64))],[.arr (.int .i64) 0,.st [.arr (.int .u8),.arr (.int .u8)] 1 0]⟩
 to := fun v => ⟨v.1.1,v.2.1,v.2.2.1.1,v.2.2.1.2.1⟩
 fr := fun x => ((x.r,()),(x.ls,((x.pi,(x.ps,())),())))
def s0 (x : p0X) : Option (p0X ⊕ (q0X ⊕ z0X)) := bif decide (x.i < x.n) then bif inR x.i x.s_len then bif decide (x.s_lo + x.i.toNat < x.ls.length) then bindO (M43.m { i := x.ls[x.s_lo + x.i.toNat]?.getD 0,pi := x.pi,ps := x.ps }) fun y => bif y.fst then some (Sum.inr (Sum.inr { r := x.i,ls := x.ls,pi := x.pi,ps := x.ps })) else some (Sum.inl { s_lo := x.s_lo,s_len := x.s_len,n := x.n,i := IntKind.i64.wrap (x.i + 1),ls := x.ls,pi := x.pi,ps := x.ps }) else none else none
else some (Sum.inr (Sum.inl { ls := x.ls,pi := x.pi,ps := x.ps }))
theorem s0_eq (x : p0X) : exec E1 19 (C51.bodyAt 0) 1 (p0.R x) (p0.H x) (roundK2 2 p0 (.exit 0) q0 .ret z0) = s0 x := by kernel_rfl
noncomputable def l0 : LoopS := mkLoop2 2 p0 (.exit 0) q0 .ret z0 s0
theorem tl0 : topL (C51.bodyAt 0) 1 = [] := by kernel_rfl
theorem l0_ok  : LoopOkS Try.prog 19 none 2 (C51.bodyAt 0) l0 := mkLoop2_ok mixed (env_ok ty_ok cl_ok _) (by trivial) (by trivial) (fun _ => rfl) (fun _ => rfl) (fun _ => rfl) (tl0 ▸ AllL.nil) s0_eq
noncomputable def E0 : Env := ⟨ty,cfOf cl,lpOf [(0,l0)],none⟩
noncomputable def m (x : gX) : Option fY := bindO (iter s0 { s_lo := x.s_lo,s_len := x.s_len,n := (↑x.s_len : Int),i := 0,ls := x.ls,pi := x.pi,ps := x.ps }) fun s => sumC s (fun y => some (-1,y.ls,y.pi,y.ps)) fun z => some (z.r,z.ls,z.pi,z.ps)
theorem m_eq (x : gX) : exec E0 19 C51 0 (initS 0 (g.A x)) (g.H x) (finish 2 ty [.tmp 4] f) = m x := by kernel_rfl
theorem tl : topL C51 0 = [(0,C51.bodyAt 0)] := by kernel_rfl
theorem known : Known Try.prog 51 g f m :=
 mk_known mixed (env_ok ty_ok cl_ok _) s51 rfl rfl tl (AllL.cons rfl l0_ok AllL.nil) (fun _ _ => ⟨rfl,rfl⟩) (fun _ _ => ⟨rfl,rfl⟩) m_eq
theorem hh {x : gX} {y : fY} (h : m x = some y) : f.H y = g.H x := by
 unfold m at h
 obtain ⟨r,h1,h2⟩ := bindO_some h
 have h3 := iter_keep (fun z => z.ls = x.ls ∧ z.pi = x.pi ∧ z.ps = x.ps) (fun r => match r with | .inl y => y.ls = x.ls ∧ y.pi = x.pi ∧ y.ps = x.ps | .inr z => z.ls = x.ls ∧ z.pi = x.pi ∧ z.ps = x.ps) (fun z r hz hr => by
  unfold s0 at hr
  rcases cond_some hr with ⟨_,hr⟩ | ⟨_,hr⟩
  ·rcases cond_some hr with ⟨_,hr⟩ | ⟨_,hr⟩
   ·rcases cond_some hr with ⟨_,hr⟩ | ⟨_,hr⟩
    ·obtain ⟨b,_,hr⟩ := bindO_some hr
     rcases cond_some hr with ⟨_,hr⟩ | ⟨_,hr⟩ <;> (cases hr; exact hz)
    ·cases hr
   ·cases hr
  ·cases hr; exact hz) ⟨rfl,rfl,rfl⟩ h1
 rcases sumC_some h2 with ⟨z,rfl,h4⟩ | ⟨z,rfl,h4⟩ <;> (cases h4; show [SO.arr (.int .i64) z.ls 0,SO.st [.arr (.int .u8) z.pi none,.arr (.int .u8) z.ps none] 1 0] = [SO.arr (.int .i64) x.ls 0,SO.st [.arr (.int .u8) x.pi none,.arr (.int .u8) x.ps none] 1 0]; rw [h3.1,h3.2.1,h3.2.2])
noncomputable def con : Con := conR g [.arg 0 0,.arg 1 0] f m default
theorem con_ok : ConOk Try.prog 51 con := conR_ok known (fun _ => rfl) (fun _ _ h => by exact hh h)
end M51o
namespace M42o
structure gX where
 s_lo : Nat
 s_len : Nat
 ls : List (Int)
 pi : List (Int)
 ps : List (Int)
def g : Sg gX where
 vs := [.c (.sl 0 0 1),.c (.clo 43 [⟨1,0,0⟩])]
 h := [.arr (.int .i64) 0,.st [.arr (.int .u8),.arr (.int .u8)] 1 0]
 to := fun a b => ⟨a.1.1,a.1.2,b.1,b.2.1.1,b.2.1.2.1⟩
 fa := fun x => ((x.s_lo,x.s_len),((),()))
 fh := fun x => (x.ls,((x.pi,(x.ps,())),()))
abbrev fY := Bool × List (Int) × List (Int) × List (Int)
def f : Ft fY where
 ord := none
 sh := .c (.bo)
 h := [.arr (.int .i64) 0,.st [.arr (.int .u8),.arr (.int .u8)] 1 0]
 to := fun a b => (a,b.1,b.2.1.1,b.2.1.2.1)
 fv := fun y => y.1
 fh := fun y => (y.2.1,((y.2.2.1,(y.2.2.2,())),()))
noncomputable def cl : List (FuncId × Con) := [(51,M51o.con)]
theorem cl_ok : allCon Try.prog cl := ⟨M51o.con_ok,trivial⟩
noncomputable def E0 : Env := ⟨ty,cfOf cl,fun _ => none,none⟩
noncomputable def m (x : gX) : Option fY := bindO (M51o.m { s_lo := x.s_lo,s_len := x.s_len,ls := x.ls,pi := x.pi,ps := x.ps }) fun y => some (decide (y.fst ≥ 0),x.ls,x.pi,x.ps)
theorem m_eq (x : gX) : exec E0 9 C42 0 (initS 0 (g.A x)) (g.H x) (finish 2 ty [.tmp 4] f) = m x := by kernel_rfl
theorem tl : topL C42 0 = [] := by kernel_rfl
theorem known : Known Try.prog 42 g f m :=
 mk_known mixed (env_ok ty_ok cl_ok _) s42 rfl rfl tl AllL.nil (fun _ _ => ⟨rfl,rfl⟩) (fun _ _ => ⟨rfl,rfl⟩) m_eq
theorem hh {x : gX} {y : fY} (h : m x = some y) : f.H y = g.H x := by
 unfold m at h
 obtain ⟨r,h1,h2⟩ := bindO_some h
 cases h2; rfl
noncomputable def con : Con := conR g [.arg 0 0,.arg 1 0] f m default
theorem con_ok : ConOk Try.prog 42 con := conR_ok known (fun _ => rfl) (fun _ _ h => by exact hh h)
end M42o
namespace M23o
structure gX where
 i : List (Int)
 s : List (Int)
 l_lo : Nat
 l_len : Nat
 ls : List (Int)
def g : Sg gX where
 vs := [.agg [.arr (.int .u8),.arr (.int .u8)],.c (.sl 0 0 1)]
 h := [.arr (.int .i64) 0]
 to := fun a b => ⟨a.1.1,a.1.2.1,a.2.1.1,a.2.1.2,b.1⟩
 fa := fun x => ((x.i,(x.s,())),((x.l_lo,x.l_len),()))
 fh := fun x => (x.ls,())
abbrev fY := List (Int) × List (Int) × Int × List (Int)
def f : Ft fY where
 ord := none
 sh := .tup [.inr [.arr (.int .u8),.arr (.int .u8)],.inl (.it .i64)]
 h := [.arr (.int .i64) 0]
 to := fun a b => (a.1.1,a.1.2.1,a.2.1,b.1)
 fv := fun y => ((y.1,(y.2.1,())),(y.2.2.1,()))
 fh := fun y => (y.2.2.2,())
noncomputable def cl : List (FuncId × Con) := [(29,M29.con),(42,M42o.con),(34,M34.con)]
theorem cl_ok : allCon Try.prog cl := ⟨M29.con_ok,M42o.con_ok,M34.con_ok,trivial⟩
noncomputable def E1 : Env := ⟨ty,cfOf cl,fun _ => none,none⟩
structure p0X where
 l_lo : Nat
 l_len : Nat
 n : Int
 i : Int
 ls : List (Int)
 pi : List (Int)
 ps : List (Int)
 xs : List (Int)
 ys : List (Int)
 oi_lo : Nat
 oi_len : Nat
 oi_cap : Nat
 os_lo : Nat
 os_len : Nat
 os_cap : Nat
def p0 : Pt p0X where
 own := []
 t := ⟨[(2,.c (.ptr 1 0)),(4,.c (.ptr 2 0)),(7,.c (.ptr 5 0)),(22,.c (.sl 0 0 1)),(23,.c (.it .i64)),(24,.c (.it .i64))],[.arr (.int .i64) 0,.st [.arr (.int .u8),.arr (.int .u8)] 1 0,.st [.junk,.junk] 1 0,.arr (.int .u8) 0,.arr (.int .u8) 0,.st [.slc 3 0 1,.slc 4 0 1] 1 0]⟩
 to := fun v => ⟨v.1.2.2.2.1.1,v.1.2.2.2.1.2,v.1.2.2.2.2.1,v.1.2.2.2.2.2.1,v.2.1,v.2.2.1.1,v.2.2.1.2.1,v.2.2.2.2.1,v.2.2.2.2.2.1,v.2.2.2.2.2.2.1.1.1,v.2.2.2.2.2.2.1.1.2.1,v.2.2.2.2.2.2.1.1.2.2,v.2.2.2.2.2.2.1.2.1.1,v.2.2.2.2.2.2.1.2.1.2.1,v.2.2.2.2.2.2.1.2.1.2.2⟩
 fr := fun x => (((),((),((),((x.l_lo,x.l_len),(x.n,(x.i,())))))),(x.ls,((x.pi,(x.ps,())),(((),((),())),(x.xs,(x.ys,(((x.oi_lo,x.oi_len,x.oi_cap),((x.os_lo,x.os_len,x.os_cap),())),())))))))
structure q0X where
 ls : List (Int)
 pi : List (Int)
 ps : List (Int)
 xs : List (Int)
 ys : List (Int)
 oi_lo : Nat
 oi_len : Nat
 oi_cap : Nat
 os_lo : Nat
 os_len : Nat
 os_cap : Nat
def q0 : Pt q0X where
 own := []
 t := ⟨[(4,.c (.ptr 2 0)),(7,.c (.ptr 5 0))],[.arr (.int .i64) 0,.st [.arr (.int .u8),.arr (.int .u8)] 1 0,.st [.junk,.junk] 1 0,.arr (.int .u8) 0,.arr (.int .u8) 0,.st [.slc 3 0 1,.slc 4 0 1] 1 0]⟩
 to := fun v => ⟨v.2.1,v.2.2.1.1,v.2.2.1.2.1,v.2.2.2.2.1,v.2.2.2.2.2.1,v.2.2.2.2.2.2.1.1.1,v.2.2.2.2.2.2.1.1.2.1,v.2.2.2.2.2.2.1.1.2.2,v.2.2.2.2.2.2.1.2.1.1,v.2.2.2.2.2.2.1.2.1.2.1,v.2.2.2.2.2.2.1.2.1.2.2⟩
 fr := fun x => (((),((),())),(x.ls,((x.pi,(x.ps,())),(((),((),())),(x.xs,(x.ys,(((x.oi_lo,x.oi_len,x.oi_cap),((x.os_lo,x.os_len,x.os_cap),())),())))))))
noncomputable def s0 (x : p0X) : Option (p0X ⊕ q0X) := bif decide (x.i < x.n) then bif inR x.i x.l_len then bif decide (x.l_lo + x.i.toNat < x.ls.length) then bif decide (x.ls[x.l_lo + x.i.toNat]?.getD 0 < (↑x.pi.length : Int)) then bif inR (x.ls[x.l_lo + x.i.toNat]?.getD 0) x.oi_len then bif decide (x.oi_lo + Int.toNat (x.ls[x.l_lo + x.i.toNat]?.getD 0) < x.xs.length) then some (Sum.inl { l_lo := x.l_lo,l_len := x.l_len,n := x.n,i := IntKind.i64.wrap (x.i + 1),ls := x.ls,pi := x.pi,ps := x.ps,xs := x.xs.set (x.oi_lo + Int.toNat (x.ls[x.l_lo + x.i.toNat]?.getD 0)) 2,ys := x.ys,oi_lo := x.oi_lo,oi_len := x.oi_len,oi_cap := x.oi_cap,os_lo := x.os_lo,os_len := x.os_len,os_cap := x.os_cap }) else none else none else bif inR (IntKind.i64.wrap (x.ls[x.l_lo + x.i.toNat]?.getD 0 - (↑x.pi.length : Int))) x.os_len then bif decide (x.os_lo + (IntKind.i64.wrap (x.ls[x.l_lo + x.i.toNat]?.getD 0 - (↑x.pi.length : Int))).toNat < x.ys.length) then some (Sum.inl { l_lo := x.l_lo,l_len := x.l_len,n := x.n,i := IntKind.i64.wrap (x.i + 1),ls := x.ls,pi := x.pi,ps := x.ps,xs := x.xs,ys := x.ys.set (x.os_lo + (IntKind.i64.wrap (x.ls[x.l_lo + x.i.toNat]?.getD 0 - (↑x.pi.length : Int))).toNat) 2,oi_lo := x.oi_lo,oi_len := x.oi_len,oi_cap := x.oi_cap,os_lo := x.os_lo,os_len := x.os_len,os_cap := x.os_cap }) else none else none else none else none
else
 some
  (Sum.inr
   {ls := x.ls,pi := x.pi,ps := x.ps,xs := x.xs,ys := x.ys,oi_lo := x.oi_lo,oi_len := x.oi_len,oi_cap := x.oi_cap,os_lo := x.os_lo,os_len := x.os_len,
    os_cap := x.os_cap })
theorem s0_eq (x : p0X) : exec E1 47 (C23.bodyAt 0) 1 (p0.R x) (p0.H x) (roundK 1 p0 (.exit 0) q0) = s0 x := by kernel_rfl
noncomputable def l0 : LoopS := mkLoop 1 p0 (.exit 0) q0 s0
theorem tl0 : topL (C23.bodyAt 0) 1 = [] := by kernel_rfl
theorem l0_ok  : LoopOkS Try.prog 47 none 1 (C23.bodyAt 0) l0 := mkLoop_ok mixed (env_ok ty_ok cl_ok _) (by trivial) (fun _ => rfl) (fun _ => rfl) (tl0 ▸ AllL.nil) s0_eq
noncomputable def E0 : Env := ⟨ty,cfOf cl,lpOf [(0,l0)],none⟩
noncomputable def m (x : gX) : Option fY := bindO (M29.m { i := x.i,s := x.s }) fun y => bif y != 0 then some ([],[],y,x.ls) else bindO (M42o.m { s_lo := x.l_lo,s_len := x.l_len,ls := x.ls,pi := x.i,ps := x.s }) fun y => bif y.fst then some ([],[],1,x.ls) else bindO (M34.m { i := x.i,s := x.s }) fun y => bindO (iter s0 { l_lo := x.l_lo,l_len := x.l_len,n := (↑x.l_len : Int),i := 0,ls := x.ls,pi := x.i,ps := x.s,xs := y.snd.snd.snd.snd.snd.snd.fst,ys := y.snd.snd.snd.snd.snd.snd.snd,oi_lo := y.fst,oi_len := y.snd.fst,oi_cap := y.snd.snd.fst,os_lo := y.snd.snd.snd.fst,os_len := y.snd.snd.snd.snd.fst,os_cap := y.snd.snd.snd.snd.snd.fst }) fun y => bif leB (y.oi_lo + y.oi_len) y.xs.length && (leB (y.os_lo + y.os_len) y.ys.length && true) && true && true && true then some (List.take y.oi_len (List.drop y.oi_lo y.xs),List.take y.os_len (List.drop y.os_lo y.ys),0,y.ls) else none
theorem m_eq (x : gX) : exec E0 47 C23 0 (initS 0 (g.A x)) (g.H x) (finish 1 ty [.cell 4 29,.tmp 5] f) = m x := by kernel_rfl
theorem tl : topL C23 0 = [(0,C23.bodyAt 0)] := by kernel_rfl
theorem known : Known Try.prog 23 g f m :=
 mk_known mixed (env_ok ty_ok cl_ok _) s23 rfl rfl tl (AllL.cons rfl l0_ok AllL.nil) (fun _ _ => ⟨rfl,rfl⟩) (fun _ _ => ⟨rfl,rfl⟩) m_eq
theorem hh {x : gX} {y : fY} (h : m x = some y) : f.H y = g.H x := by
 unfold m at h
 obtain ⟨e,_,h⟩ := bindO_some h
 rcases cond_some h with ⟨_,h⟩ | ⟨_,h⟩
 ·cases h; rfl
 obtain ⟨b,_,h⟩ := bindO_some h
 rcases cond_some h with ⟨_,h⟩ | ⟨_,h⟩
 ·cases h; rfl
 obtain ⟨o,_,h⟩ := bindO_some h
 obtain ⟨z,h1,h⟩ := bindO_some h
 rcases cond_some h with ⟨_,h⟩ | ⟨_,h⟩
 ·cases h
  have h3 := iter_keep (fun z => z.ls = x.ls) (fun r => r.ls = x.ls) (fun z r hz hr => by
   unfold s0 at hr
   rcases cond_some hr with ⟨_,hr⟩ | ⟨_,hr⟩
   ·rcases cond_some hr with ⟨_,hr⟩ | ⟨_,hr⟩
    ·rcases cond_some hr with ⟨_,hr⟩ | ⟨_,hr⟩
     ·rcases cond_some hr with ⟨_,hr⟩ | ⟨_,hr⟩
      ·rcases cond_some hr with ⟨_,hr⟩ | ⟨_,hr⟩
       ·rcases cond_some hr with ⟨_,hr⟩ | ⟨_,hr⟩
        ·cases hr; exact hz
        ·cases hr
       ·cases hr
      ·rcases cond_some hr with ⟨_,hr⟩ | ⟨_,hr⟩
       ·rcases cond_some hr with ⟨_,hr⟩ | ⟨_,hr⟩
        ·cases hr; exact hz
        ·cases hr
       ·cases hr
     ·cases hr
    ·cases hr
   ·cases hr; exact hz) rfl h1
  show [SO.arr (.int .i64) z.ls 0] = [SO.arr (.int .i64) x.ls 0]
  rw [h3]
 ·cases h
noncomputable def con : Con := conR g [.arg 1 0] f m default
theorem con_ok : ConOk Try.prog 23 con := conR_ok known (fun _ => rfl) (fun _ _ h => by exact hh h)
end M23o
end Go.Proofs.Ytnmlmdlhhphcoaa
namespace Go.Proofs.Ytnmlmdlhhphcoaa
open Go.Abs
set_option maxRecDepth 100000
namespace M24
structure gX where
 i : List (Int)
 s : List (Int)
def g : Sg gX where
 vs := [.agg [.arr (.int .u8),.arr (.int .u8)]]
 h := []
 to := fun a b => ⟨a.1.1,a.1.2.1⟩
 fa := fun x => ((x.i,(x.s,())),())
 fh := fun x => ()
abbrev fY := Bool
def f : Ft fY where
 ord := none
 sh := .c (.bo)
 h := []
 to := fun a b => (a)
 fv := fun y => y
 fh := fun y => ()
noncomputable def cl : List (FuncId × Con) := [(30,M30.con),(14,M14.con)]
theorem cl_ok : allCon Try.prog cl := ⟨M30.con_ok,M14.con_ok,trivial⟩
noncomputable def E3 : Env := ⟨ty,cfOf cl,fun _ => none,none⟩
structure p2X where
 l : List ((List (Int)) × List (Int))
 n : Int
 at_ : Int
 k : Int
 i : Int
 pi : List (Int)
 ps : List (Int)
def p2 : Pt p2X where
 own := []
 t := ⟨[(1,.c (.ptr 0 0)),(3,.c (.arr (.pair (.sl (.int .u8)) (.sl (.int .u8))))),(5,.c (.it .i64)),(6,.c (.it .i64)),(7,.c (.it .i64)),(11,.c (.it .i64))],[.st [.arr (.int .u8),.arr (.int .u8)] 1 0]⟩
 to := fun v => ⟨v.1.2.1,v.1.2.2.1,v.1.2.2.2.1,v.1.2.2.2.2.1,v.1.2.2.2.2.2.1,v.2.1.1,v.2.1.2.1⟩
 fr := fun x => (((),(x.l,(x.n,(x.at_,(x.k,(x.i,())))))),((x.pi,(x.ps,())),()))
structure q2X where
 l : List ((List (Int)) × List (Int))
 n : Int
 at_ : Int
 k : Int
 pi : List (Int)
 ps : List (Int)
def q2 : Pt q2X where
 own := []
 t := ⟨[(1,.c (.ptr 0 0)),(3,.c (.arr (.pair (.sl (.int .u8)) (.sl (.int .u8))))),(5,.c (.it .i64)),(6,.c (.it .i64)),(7,.c (.it .i64))],[.st [.arr (.int .u8),.arr (.int .u8)] 1 0]⟩
 to := fun v => ⟨v.1.2.1,v.1.2.2.1,v.1.2.2.2.1,v.1.2.2.2.2.1,v.2.1.1,v.2.1.2.1⟩
 fr := fun x => (((),(x.l,(x.n,(x.at_,(x.k,()))))),((x.pi,(x.ps,())),()))
structure z2X where
 r : Bool
def z2 : Pt z2X where
 own := []
 t := ⟨[(2,.c (.bo))],[]⟩
 to := fun v => ⟨v.1.1⟩
 fr := fun x => ((x.r,()),())
noncomputable def s2 (x : p2X) : Option (p2X ⊕ (q2X ⊕ z2X)) := bif decide (x.i < x.n) then bif inR x.at_ x.l.length then bindO (M14.m { i := (x.l[x.at_.toNat]?.getD ([],[])).fst,s := (x.l[x.at_.toNat]?.getD ([],[])).snd }) fun y => bif inR x.i (List.length y) then bif decide (0 ≤ IntKind.i64.wrap (IntKind.i64.wrap (x.n - 1) - x.i)) then bif IntKind.i64.wrap (y[x.i.toNat]?.getD 0) != (x.k.fdiv (2 ^ min (IntKind.i64.wrap (IntKind.i64.wrap (x.n - 1) - x.i)).toNat 64)).tmod 2 then some (Sum.inr (Sum.inr { r := false })) else some (Sum.inl { l := x.l,n := x.n,at_ := x.at_,k := x.k,i := IntKind.i64.wrap (x.i + 1),pi := x.pi,ps := x.ps }) else none else none else none
else some (Sum.inr (Sum.inl { l := x.l,n := x.n,at_ := x.at_,k := x.k,pi := x.pi,ps := x.ps }))
theorem s2_eq (x : p2X) : exec E3 113 (C24.bodyAt 2) 3 (p2.R x) (p2.H x) (roundK2 0 p2 (.exit 4) q2 .ret z2) = s2 x := by kernel_rfl
noncomputable def l2 : LoopS := mkLoop2 0 p2 (.exit 4) q2 .ret z2 s2
theorem tl2 : topL (C24.bodyAt 2) 3 = [] := by kernel_rfl
theorem l2_ok  : LoopOkS Try.prog 113 none 0 (C24.bodyAt 2) l2 := mkLoop2_ok mixed (env_ok ty_ok cl_ok _) (by trivial) (by trivial) (fun _ => rfl) (fun _ => rfl) (fun _ => rfl) (tl2 ▸ AllL.nil) s2_eq
noncomputable def E2 : Env := ⟨ty,cfOf cl,lpOf [(2,l2)],none⟩
structure p1X where
 l : List ((List (Int)) × List (Int))
 n : Int
 at_ : Int
 k : Int
 ok : Bool
 i : Int
 pi : List (Int)
 ps : List (Int)
def p1 : Pt p1X where
 own := []
 t := ⟨[(1,.c (.ptr 0 0)),(3,.c (.arr (.pair (.sl (.int .u8)) (.sl (.int .u8))))),(5,.c (.it .i64)),(6,.c (.it .i64)),(7,.c (.it .i64)),(8,.c (.bo)),(9,.c (.it .i64))],[.st [.arr (.int .u8),.arr (.int .u8)] 1 0]⟩
 to := fun v => ⟨v.1.2.1,v.1.2.2.1,v.1.2.2.2.1,v.1.2.2.2.2.1,v.1.2.2.2.2.2.1,v.1.2.2.2.2.2.2.1,v.2.1.1,v.2.1.2.1⟩
 fr := fun x => (((),(x.l,(x.n,(x.at_,(x.k,(x.ok,(x.i,()))))))),((x.pi,(x.ps,())),()))
structure q1X where
 l : List ((List (Int)) × List (Int))
 n : Int
 at_ : Int
 k : Int
 ok : Bool
 pi : List (Int)
 ps : List (Int)
def q1 : Pt q1X where
 own := []
 t := ⟨[(1,.c (.ptr 0 0)),(3,.c (.arr (.pair (.sl (.int .u8)) (.sl (.int .u8))))),(5,.c (.it .i64)),(6,.c (.it .i64)),(7,.c (.it .i64)),(8,.c (.bo))],[.st [.arr (.int .u8),.arr (.int .u8)] 1 0]⟩
 to := fun v => ⟨v.1.2.1,v.1.2.2.1,v.1.2.2.2.1,v.1.2.2.2.2.1,v.1.2.2.2.2.2.1,v.2.1.1,v.2.1.2.1⟩
 fr := fun x => (((),(x.l,(x.n,(x.at_,(x.k,(x.ok,())))))),((x.pi,(x.ps,())),()))
noncomputable def s1 (x : p1X) : Option (p1X ⊕ q1X) := bif decide (x.i < x.n) then bindO (M14.m { i := x.pi,s := x.ps }) fun y => bif inR x.i (List.length y) then bif decide (0 ≤ IntKind.i64.wrap (IntKind.i64.wrap (x.n - 1) - x.i)) || !(x.ok && !y[x.i.toNat]?.getD 0 == 2) then some (Sum.inl { l := x.l,n := x.n,at_ := x.at_,k := x.k,ok := bif x.ok then bif y[x.i.toNat]?.getD 0 == 2 then true else IntKind.i64.wrap (y[x.i.toNat]?.getD 0) == (x.k.fdiv (2 ^ min (IntKind.i64.wrap (IntKind.i64.wrap (x.n - 1) - x.i)).toNat 64)).tmod 2 else false,i := IntKind.i64.wrap (x.i + 1),pi := x.pi,ps := x.ps }) else none else none
else some (Sum.inr { l := x.l,n := x.n,at_ := x.at_,k := x.k,ok := x.ok,pi := x.pi,ps := x.ps })
theorem s1_eq (x : p1X) : exec E2 113 (C24.bodyAt 1) 2 (p1.R x) (p1.H x) (roundK 0 p1 (.exit 2) q1) = s1 x := by kernel_rfl
noncomputable def l1 : LoopS := mkLoop 0 p1 (.exit 2) q1 s1
theorem tl1 : topL (C24.bodyAt 1) 2 = [] := by kernel_rfl
theorem l1_ok  : LoopOkS Try.prog 113 none 0 (C24.bodyAt 1) l1 := mkLoop_ok mixed (env_ok ty_ok cl_ok _) (by trivial) (fun _ => rfl) (fun _ => rfl) (tl1 ▸ AllL.nil) s1_eq
noncomputable def E1 : Env := ⟨ty,cfOf cl,lpOf [(1,l1),(2,l2)],none⟩
structure p0X where
 l : List ((List (Int)) × List (Int))
 n : Int
 at_ : Int
 k : Int
 pi : List (Int)
 ps : List (Int)
def p0 : Pt p0X where
 own := []
 t := ⟨[(1,.c (.ptr 0 0)),(3,.c (.arr (.pair (.sl (.int .u8)) (.sl (.int .u8))))),(5,.c (.it .i64)),(6,.c (.it .i64)),(7,.c (.it .i64))],[.st [.arr (.int .u8),.arr (.int .u8)] 1 0]⟩
 to := fun v => ⟨v.1.2.1,v.1.2.2.1,v.1.2.2.2.1,v.1.2.2.2.2.1,v.2.1.1,v.2.1.2.1⟩
 fr := fun x => (((),(x.l,(x.n,(x.at_,(x.k,()))))),((x.pi,(x.ps,())),()))
structure q0X where
 l : List ((List (Int)) × List (Int))
 at_ : Int
def q0 : Pt q0X where
 own := []
 t := ⟨[(3,.c (.arr (.pair (.sl (.int .u8)) (.sl (.int .u8))))),(6,.c (.it .i64))],[]⟩
 to := fun v => ⟨v.1.1,v.1.2.1⟩
 fr := fun x => ((x.l,(x.at_,())),())
structure z0X where
 r : Bool
def z0 : Pt z0X where
 own := []
 t := ⟨[(2,.c (.bo))],[]⟩
 to := fun v => ⟨v.1.1⟩
 fr := fun x => ((x.r,()),())
noncomputable def s0 (x : p0X) : Option (p0X ⊕ (q0X ⊕ z0X)) := bif decide (0 ≤ x.n) then bif decide (x.k < IntKind.i64.wrap (1 * 2 ^ min x.n.toNat 64)) then bindO (iter s1 { l := x.l,n := x.n,at_ := x.at_,k := x.k,ok := true,i := 0,pi := x.pi,ps := x.ps }) fun y => bif !y.ok then some (Sum.inl { l := y.l,n := y.n,at_ := y.at_,k := IntKind.i64.wrap (y.k + 1),pi := y.pi,ps := y.ps }) else bif inR y.at_ y.l.length || !!decide (y.at_ ≥ (↑y.l.length : Int)) then bif inR y.at_ y.l.length || !!bif decide (y.at_ ≥ (↑y.l.length : Int)) then true else (↑(List.length (y.l[y.at_.toNat]?.getD ([],[])).fst) : Int) != (↑y.pi.length : Int) then bif bif bif decide (y.at_ ≥ (↑y.l.length : Int)) then true else (↑(List.length (y.l[y.at_.toNat]?.getD ([],[])).fst) : Int) != (↑y.pi.length : Int) then true else (↑(List.length (y.l[y.at_.toNat]?.getD ([],[])).snd) : Int) != (↑y.ps.length : Int) then some (Sum.inr (Sum.inr { r := false })) else bindO (iter s2 { l := y.l,n := y.n,at_ := y.at_,k := y.k,i := 0,pi := y.pi,ps := y.ps }) fun s => sumC s (fun y => some (Sum.inl { l := y.l,n := y.n,at_ := IntKind.i64.wrap (y.at_ + 1),k := IntKind.i64.wrap (y.k + 1),pi := y.pi,ps := y.ps })) fun z => some (Sum.inr (Sum.inr { r := z.r })) else none else none else some (Sum.inr (Sum.inl { l := x.l,at_ := x.at_ }))
else none
theorem s0_eq (x : p0X) : exec E1 113 (C24.bodyAt 0) 1 (p0.R x) (p0.H x) (roundK2 0 p0 (.exit 0) q0 .ret z0) = s0 x := by kernel_rfl
noncomputable def l0 : LoopS := mkLoop2 0 p0 (.exit 0) q0 .ret z0 s0
theorem tl0 : topL (C24.bodyAt 0) 1 = [(1,C24.bodyAt 1),(2,C24.bodyAt 2)] := by kernel_rfl
theorem l0_ok  : LoopOkS Try.prog 113 none 0 (C24.bodyAt 0) l0 := mkLoop2_ok mixed (env_ok ty_ok cl_ok _) (by trivial) (by trivial) (fun _ => rfl) (fun _ => rfl) (fun _ => rfl) (tl0 ▸ (AllL.cons rfl l1_ok (AllL.cons rfl l2_ok AllL.nil))) s0_eq
noncomputable def E0 : Env := ⟨ty,cfOf cl,lpOf [(0,l0),(1,l1),(2,l2)],none⟩
noncomputable def m (x : gX) : Option fY := bindO (M30.m { i := x.i,s := x.s }) fun y => bindO (M14.m { i := x.i,s := x.s }) fun y_1 => bif y.snd != 0 then some false else bindO (iter s0 { l := y.fst,n := (↑(List.length y_1) : Int),at_ := 0,k := 0,pi := x.i,ps := x.s }) fun s => sumC s (fun y => some (y.at_ == (↑y.l.length : Int))) fun z => some z.r
theorem m_eq (x : gX) : exec E0 113 C24 0 (initS 0 (g.A x)) (g.H x) (finish 0 ty [.tmp 2] f) = m x := by kernel_rfl
theorem tl : topL C24 0 = [(0,C24.bodyAt 0)] := by kernel_rfl
theorem known : Known Try.prog 24 g f m :=
 mk_known mixed (env_ok ty_ok cl_ok _) s24 rfl rfl tl (AllL.cons rfl l0_ok AllL.nil) (fun _ _ => ⟨rfl,rfl⟩) (fun _ _ => ⟨rfl,rfl⟩) m_eq
noncomputable def con : Con := conT g f m default
theorem con_ok : ConOk Try.prog 24 con := conT_ok known (fun _ => rfl) rfl
end M24
end Go.Proofs.Ytnmlmdlhhphcoaa
namespace Go.Proofs.Ytnmlmdlhhphcoaa
open Go.Abs
set_option maxRecDepth 100000
namespace M4
structure gX where
 xi : List (Int)
 xs : List (Int)
 l : List (Int)
def g : Sg gX where
 vs := [.agg [.arr (.int .u8),.arr (.int .u8)],.c (.arr (.int .u8))]
 h := []
 to := fun a b => ⟨a.1.1,a.1.2.1,a.2.1⟩
 fa := fun x => ((x.xi,(x.xs,())),(x.l,()))
 fh := fun x => ()
abbrev fY := Bool
def f : Ft fY where
 ord := none
 sh := .c (.bo)
 h := []
 to := fun a b => (a)
 fv := fun y => y
 fh := fun y => ()
noncomputable def cl : List (FuncId × Con) := [(9,M9.con),(10,M10.con),(11,M11.con),(14,M14.con),(19,M19.con),(20,M20.con),(21,M21.con),(22,M22.con),(23,M23o.con),(17,M17.con),(24,M24.con)]
theorem cl_ok : allCon Try.prog cl := ⟨M9.con_ok,M10.con_ok,M11.con_ok,M14.con_ok,M19.con_ok,M20.con_ok,M21.con_ok,M22.con_ok,M23o.con_ok,M17.con_ok,M24.con_ok,trivial⟩
noncomputable def E4 : Env := ⟨ty,cfOf cl,fun _ => none,none⟩
structure p3X where
 bits : List (Int)
 at__lo : Nat
 at__len : Nat
 got : List (Int)
 i : Int
 want : Int
 k : Int
 ai : List (Int)
 as_ : List (Int)
 xs : List (Int)
def p3 : Pt p3X where
 own := []
 t := ⟨[(5,.c (.ptr 1 0)),(6,.c (.arr (.int .u8))),(18,.c (.sl 5 0 1)),(22,.c (.arr (.int .u8))),(23,.c (.it .i64)),(24,.c (.it .u8)),(25,.c (.it .i64))],[.st [.junk,.junk] 1 0,.st [.arr (.int .u8),.arr (.int .u8)] 1 0,.st [.junk,.junk] 1 0,.st [.junk,.junk] 1 0,.st [.junk,.junk] 1 0,.arr (.int .i64) 0]⟩
 to := fun v => ⟨v.1.2.1,v.1.2.2.1.1,v.1.2.2.1.2,v.1.2.2.2.1,v.1.2.2.2.2.1,v.1.2.2.2.2.2.1,v.1.2.2.2.2.2.2.1,v.2.2.1.1,v.2.2.1.2.1,v.2.2.2.2.2.2.1⟩
 fr := fun x => (((),(x.bits,((x.at__lo,x.at__len),(x.got,(x.i,(x.want,(x.k,()))))))),(((),((),())),((x.ai,(x.as_,())),(((),((),())),(((),((),())),(((),((),())),(x.xs,())))))))
structure q3X where
 bits : List (Int)
 at__lo : Nat
 at__len : Nat
 got : List (Int)
 i : Int
 want : Int
 ai : List (Int)
 as_ : List (Int)
 xs : List (Int)
def q3 : Pt q3X where
 own := []
 t := ⟨[(5,.c (.ptr 1 0)),(6,.c (.arr (.int .u8))),(18,.c (.sl 5 0 1)),(22,.c (.arr (.int .u8))),(23,.c (.it .i64)),(24,.c (.it .u8))],[.st [.junk,.junk] 1 0,.st [.arr (.int .u8),.arr (.int .u8)] 1 0,.st [.junk,.junk] 1 0,.st [.junk,.junk] 1 0,.st [.junk,.junk] 1 0,.arr (.int .i64) 0]⟩
 to := fun v => ⟨v.1.2.1,v.1.2.2.1.1,v.1.2.2.1.2,v.1.2.2.2.1,v.1.2.2.2.2.1,v.1.2.2.2.2.2.1,v.2.2.1.1,v.2.2.1.2.1,v.2.2.2.2.2.2.1⟩
 fr := fun x => (((),(x.bits,((x.at__lo,x.at__len),(x.got,(x.i,(x.want,())))))),(((),((),())),((x.ai,(x.as_,())),(((),((),())),(((),((),())),(((),((),())),(x.xs,())))))))
noncomputable def s3 (x : p3X) : Option (p3X ⊕ q3X) := bif decide (x.k < (↑x.at__len : Int)) then bif inR x.k x.at__len then bif decide (x.at__lo + x.k.toNat < x.xs.length) then some (Sum.inl { bits := x.bits,at__lo := x.at__lo,at__len := x.at__len,got := x.got,i := x.i,want := bif x.xs[x.at__lo + x.k.toNat]?.getD 0 == x.i then 2 else x.want,k := IntKind.i64.wrap (x.k + 1),ai := x.ai,as_ := x.as_,xs := x.xs }) else none else none
else some (Sum.inr { bits := x.bits,at__lo := x.at__lo,at__len := x.at__len,got := x.got,i := x.i,want := x.want,ai := x.ai,as_ := x.as_,xs := x.xs })
theorem s3_eq (x : p3X) : exec E4 230 (C4.bodyAt 3) 4 (p3.R x) (p3.H x) (roundK 0 p3 (.exit 6) q3) = s3 x := by kernel_rfl
noncomputable def l3 : LoopS := mkLoop 0 p3 (.exit 6) q3 s3
theorem tl3 : topL (C4.bodyAt 3) 4 = [] := by kernel_rfl
theorem l3_ok  : LoopOkS Try.prog 230 none 0 (C4.bodyAt 3) l3 := mkLoop_ok mixed (env_ok ty_ok cl_ok _) (by trivial) (fun _ => rfl) (fun _ => rfl) (tl3 ▸ AllL.nil) s3_eq
noncomputable def E3 : Env := ⟨ty,cfOf cl,lpOf [(3,l3)],none⟩
structure p2X where
 bits : List (Int)
 at__lo : Nat
 at__len : Nat
 got : List (Int)
 i : Int
 ai : List (Int)
 as_ : List (Int)
 xs : List (Int)
def p2 : Pt p2X where
 own := []
 t := ⟨[(5,.c (.ptr 1 0)),(6,.c (.arr (.int .u8))),(18,.c (.sl 5 0 1)),(22,.c (.arr (.int .u8))),(23,.c (.it .i64))],[.st [.junk,.junk] 1 0,.st [.arr (.int .u8),.arr (.int .u8)] 1 0,.st [.junk,.junk] 1 0,.st [.junk,.junk] 1 0,.st [.junk,.junk] 1 0,.arr (.int .i64) 0]⟩
 to := fun v => ⟨v.1.2.1,v.1.2.2.1.1,v.1.2.2.1.2,v.1.2.2.2.1,v.1.2.2.2.2.1,v.2.2.1.1,v.2.2.1.2.1,v.2.2.2.2.2.2.1⟩
 fr := fun x => (((),(x.bits,((x.at__lo,x.at__len),(x.got,(x.i,()))))),(((),((),())),((x.ai,(x.as_,())),(((),((),())),(((),((),())),(((),((),())),(x.xs,())))))))
structure q2X where
 bits : List (Int)
 ai : List (Int)
 as_ : List (Int)
def q2 : Pt q2X where
 own := []
 t := ⟨[(5,.c (.ptr 1 0)),(6,.c (.arr (.int .u8)))],[.st [.junk,.junk] 1 0,.st [.arr (.int .u8),.arr (.int .u8)] 1 0]⟩
 to := fun v => ⟨v.1.2.1,v.2.2.1.1,v.2.2.1.2.1⟩
 fr := fun x => (((),(x.bits,())),(((),((),())),((x.ai,(x.as_,())),())))
structure z2X where
 r : Bool
def z2 : Pt z2X where
 own := []
 t := ⟨[(4,.c (.bo))],[]⟩
 to := fun v => ⟨v.1.1⟩
 fr := fun x => ((x.r,()),())
noncomputable def s2 (x : p2X) : Option (p2X ⊕ (q2X ⊕ z2X)) := bif decide (x.i < (↑x.bits.length : Int)) then bif inR x.i x.bits.length then bindO (iter s3 { bits := x.bits,at__lo := x.at__lo,at__len := x.at__len,got := x.got,i := x.i,want := x.bits[x.i.toNat]?.getD 0,k := 0,ai := x.ai,as_ := x.as_,xs := x.xs }) fun y => bif inR y.i y.got.length then bif y.got[y.i.toNat]?.getD 0 != y.want then some (Sum.inr (Sum.inr { r := false })) else some (Sum.inl { bits := y.bits,at__lo := y.at__lo,at__len := y.at__len,got := y.got,i := IntKind.i64.wrap (y.i + 1),ai := y.ai,as_ := y.as_,xs := y.xs }) else none else none
else some (Sum.inr (Sum.inl { bits := x.bits,ai := x.ai,as_ := x.as_ }))
theorem s2_eq (x : p2X) : exec E3 230 (C4.bodyAt 2) 3 (p2.R x) (p2.H x) (roundK2 0 p2 (.exit 4) q2 .ret z2) = s2 x := by kernel_rfl
noncomputable def l2 : LoopS := mkLoop2 0 p2 (.exit 4) q2 .ret z2 s2
theorem tl2 : topL (C4.bodyAt 2) 3 = [(3,C4.bodyAt 3)] := by kernel_rfl
theorem l2_ok  : LoopOkS Try.prog 230 none 0 (C4.bodyAt 2) l2 := mkLoop2_ok mixed (env_ok ty_ok cl_ok _) (by trivial) (by trivial) (fun _ => rfl) (fun _ => rfl) (fun _ => rfl) (tl2 ▸ (AllL.cons rfl l3_ok AllL.nil)) s2_eq
noncomputable def E2 : Env := ⟨ty,cfOf cl,lpOf [(2,l2),(3,l3)],none⟩
structure p1X where
 l : List (Int)
 bits : List (Int)
 at__lo : Nat
 at__len : Nat
 i : Int
 ai : List (Int)
 as_ : List (Int)
 xs : List (Int)
def p1 : Pt p1X where
 own := [.reg 18 (.int .i64)]
 t := ⟨[(1,.c (.arr (.int .u8))),(5,.c (.ptr 1 0)),(6,.c (.arr (.int .u8))),(18,.c (.sl 5 0 1)),(19,.c (.it .i64))],[.st [.junk,.junk] 1 0,.st [.arr (.int .u8),.arr (.int .u8)] 1 0,.st [.junk,.junk] 1 0,.st [.junk,.junk] 1 0,.st [.junk,.junk] 1 0,.arr (.int .i64) 0]⟩
 to := fun v => ⟨v.1.1,v.1.2.2.1,v.1.2.2.2.1.1,v.1.2.2.2.1.2,v.1.2.2.2.2.1,v.2.2.1.1,v.2.2.1.2.1,v.2.2.2.2.2.2.1⟩
 fr := fun x => ((x.l,((),(x.bits,((x.at__lo,x.at__len),(x.i,()))))),(((),((),())),((x.ai,(x.as_,())),(((),((),())),(((),((),())),(((),((),())),(x.xs,())))))))
structure q1X where
 bits : List (Int)
 at__lo : Nat
 at__len : Nat
 ai : List (Int)
 as_ : List (Int)
 xs : List (Int)
def q1 : Pt q1X where
 own := []
 t := ⟨[(5,.c (.ptr 1 0)),(6,.c (.arr (.int .u8))),(18,.c (.sl 5 0 1))],[.st [.junk,.junk] 1 0,.st [.arr (.int .u8),.arr (.int .u8)] 1 0,.st [.junk,.junk] 1 0,.st [.junk,.junk] 1 0,.st [.junk,.junk] 1 0,.arr (.int .i64) 0]⟩
 to := fun v => ⟨v.1.2.1,v.1.2.2.1.1,v.1.2.2.1.2,v.2.2.1.1,v.2.2.1.2.1,v.2.2.2.2.2.2.1⟩
 fr := fun x => (((),(x.bits,((x.at__lo,x.at__len),()))),(((),((),())),((x.ai,(x.as_,())),(((),((),())),(((),((),())),(((),((),())),(x.xs,())))))))
noncomputable def s1 (x : p1X) : Option (p1X ⊕ q1X) := bif bif decide (x.i < (↑x.l.length : Int)) then decide ((↑x.bits.length : Int) > 0) else false then bif inR x.i x.l.length then bif nz (↑x.bits.length : Int) then bif eqN x.at__lo 0 && eqN x.xs.length x.at__len && roomB (x.at__len + 1) 8 then some (Sum.inl { l := x.l,bits := x.bits,at__lo := 0,at__len := x.at__len + 1,i := IntKind.i64.wrap (x.i + 1),ai := x.ai,as_ := x.as_,xs := x.xs ++ [(IntKind.i64.wrap (x.l[x.i.toNat]?.getD 0)).tmod (↑x.bits.length : Int)] }) else none else none else none
else some (Sum.inr { bits := x.bits,at__lo := x.at__lo,at__len := x.at__len,ai := x.ai,as_ := x.as_,xs := x.xs })
theorem s1_eq (x : p1X) : exec E2 230 (C4.bodyAt 1) 2 (p1.R x) (p1.H x) (roundK 0 p1 (.exit 2) q1) = s1 x := by kernel_rfl
noncomputable def l1 : LoopS := mkLoop 0 p1 (.exit 2) q1 s1
theorem tl1 : topL (C4.bodyAt 1) 2 = [] := by kernel_rfl
theorem l1_ok  : LoopOkS Try.prog 230 none 0 (C4.bodyAt 1) l1 := mkLoop_ok mixed (env_ok ty_ok cl_ok _) (by trivial) (fun _ => rfl) (fun _ => rfl) (tl1 ▸ AllL.nil) s1_eq
noncomputable def E1 : Env := ⟨ty,cfOf cl,lpOf [(1,l1),(2,l2),(3,l3)],none⟩
structure p0X where
 l : List (Int)
 bits : List (Int)
 care : Int
 p : List (Int)
 q : List (Int)
 r2 : List (Int)
 i : Int
 ai : List (Int)
 as_ : List (Int)
 gi : List (Int)
 gs : List (Int)
def p0 : Pt p0X where
 own := []
 t := ⟨[(1,.c (.arr (.int .u8))),(5,.c (.ptr 1 0)),(6,.c (.arr (.int .u8))),(11,.c (.ptr 4 0)),(13,.c (.it .i64)),(14,.c (.arr (.int .u8))),(15,.c (.arr (.int .u8))),(16,.c (.arr (.int .u8))),(17,.c (.it .i64))],[.st [.junk,.junk] 1 0,.st [.arr (.int .u8),.arr (.int .u8)] 1 0,.st [.junk,.junk] 1 0,.st [.junk,.junk] 1 0,.st [.arr (.int .u8),.arr (.int .u8)] 1 0]⟩
 to := fun v => ⟨v.1.1,v.1.2.2.1,v.1.2.2.2.2.1,v.1.2.2.2.2.2.1,v.1.2.2.2.2.2.2.1,v.1.2.2.2.2.2.2.2.1,v.1.2.2.2.2.2.2.2.2.1,v.2.2.1.1,v.2.2.1.2.1,v.2.2.2.2.2.1.1,v.2.2.2.2.2.1.2.1⟩
 fr := fun x => ((x.l,((),(x.bits,((),(x.care,(x.p,(x.q,(x.r2,(x.i,()))))))))),(((),((),())),((x.ai,(x.as_,())),(((),((),())),(((),((),())),((x.gi,(x.gs,())),()))))))
structure q0X where
 l : List (Int)
 bits : List (Int)
 care : Int
 ai : List (Int)
 as_ : List (Int)
 gi : List (Int)
 gs : List (Int)
def q0 : Pt q0X where
 own := []
 t := ⟨[(1,.c (.arr (.int .u8))),(5,.c (.ptr 1 0)),(6,.c (.arr (.int .u8))),(11,.c (.ptr 4 0)),(13,.c (.it .i64))],[.st [.junk,.junk] 1 0,.st [.arr (.int .u8),.arr (.int .u8)] 1 0,.st [.junk,.junk] 1 0,.st [.junk,.junk] 1 0,.st [.arr (.int .u8),.arr (.int .u8)] 1 0]⟩
 to := fun v => ⟨v.1.1,v.1.2.2.1,v.1.2.2.2.2.1,v.2.2.1.1,v.2.2.1.2.1,v.2.2.2.2.2.1.1,v.2.2.2.2.2.1.2.1⟩
 fr := fun x => ((x.l,((),(x.bits,((),(x.care,()))))),(((),((),())),((x.ai,(x.as_,())),(((),((),())),(((),((),())),((x.gi,(x.gs,())),()))))))
structure z0X where
 r : Bool
def z0 : Pt z0X where
 own := []
 t := ⟨[(4,.c (.bo))],[]⟩
 to := fun v => ⟨v.1.1⟩
 fr := fun x => ((x.r,()),())
noncomputable def s0 (x : p0X) : Option (p0X ⊕ (q0X ⊕ z0X)) := bif decide (x.i < (↑x.bits.length : Int)) then bif inR x.i x.bits.length then bif inR x.i x.p.length then bindO (M20.m { l := x.bits,i := x.i,v := 0 }) fun y => bif inR x.i x.q.length || !!x.p[x.i.toNat]?.getD 0 != y then bindO (bif !x.p[x.i.toNat]?.getD 0 != y then M20.m { l := x.bits,i := x.i,v := 1 } else some (Int.ofNat 0)) fun y_1 => bif inR x.i x.r2.length || !!bif x.p[x.i.toNat]?.getD 0 != y then true else x.q[x.i.toNat]?.getD 0 != y_1 then bindO (bif !bif x.p[x.i.toNat]?.getD 0 != y then true else x.q[x.i.toNat]?.getD 0 != y_1 then M21.m { l := x.bits,i := x.i } else some (Int.ofNat 0)) fun y_2 => bindO (bif !bif x.p[x.i.toNat]?.getD 0 != y then true else x.q[x.i.toNat]?.getD 0 != y_1 then M20.m { l := x.bits,i := x.i,v := y_2 } else some (Int.ofNat 0)) fun y_3 => bif bif bif x.p[x.i.toNat]?.getD 0 != y then true else x.q[x.i.toNat]?.getD 0 != y_1 then true else x.r2[x.i.toNat]?.getD 0 != y_3 then some (Sum.inr (Sum.inr { r := false })) else some (Sum.inl { l := x.l,bits := x.bits,care := bif x.bits[x.i.toNat]?.getD 0 != 2 then IntKind.i64.wrap (x.care + 1) else x.care,p := x.p,q := x.q,r2 := x.r2,i := IntKind.i64.wrap (x.i + 1),ai := x.ai,as_ := x.as_,gi := x.gi,gs := x.gs }) else none else none else none else none
else some (Sum.inr (Sum.inl { l := x.l,bits := x.bits,care := x.care,ai := x.ai,as_ := x.as_,gi := x.gi,gs := x.gs }))
theorem s0_eq (x : p0X) : exec E1 230 (C4.bodyAt 0) 1 (p0.R x) (p0.H x) (roundK2 0 p0 (.exit 0) q0 .ret z0) = s0 x := by kernel_rfl
noncomputable def l0 : LoopS := mkLoop2 0 p0 (.exit 0) q0 .ret z0 s0
theorem tl0 : topL (C4.bodyAt 0) 1 = [] := by kernel_rfl
theorem l0_ok  : LoopOkS Try.prog 230 none 0 (C4.bodyAt 0) l0 := mkLoop2_ok mixed (env_ok ty_ok cl_ok _) (by trivial) (by trivial) (fun _ => rfl) (fun _ => rfl) (fun _ => rfl) (tl0 ▸ AllL.nil) s0_eq
noncomputable def E0 : Env := ⟨ty,cfOf cl,lpOf [(0,l0),(1,l1),(2,l2),(3,l3)],none⟩
noncomputable def m (x : gX) : Option fY := bindO (M9.m { most := 40,l := [(x.xi,x.xs)] }) fun y => bif bif !y then true else decide ((↑x.l.length : Int) > 20) then bindO (M10.m PUnit.unit) fun y => some y else bindO (M11.m { i := x.xi,s := x.xs }) fun y => bindO (M14.m { i := y.fst,s := y.snd }) fun y_1 => bindO (M19.m { i := y.fst,s := y.snd,w := 0 }) fun y_2 => bindO (M19.m { i := y.fst,s := y.snd,w := 1 }) fun y_3 => bindO (M19.m { i := y.fst,s := y.snd,w := 2 }) fun y_4 => bindO (M14.m { i := y_2.fst,s := y_2.snd.fst }) fun y_5 => bindO (M14.m { i := y_3.fst,s := y_3.snd.fst }) fun y_6 => bindO (M14.m { i := y_4.fst,s := y_4.snd.fst }) fun y_7 => bif bif bif bif bif bif y_2.snd.snd != 0 then true else y_3.snd.snd != 0 then true else y_4.snd.snd != 0 then true else (↑(List.length y_5) : Int) != (↑(List.length y_1) : Int) then true else (↑(List.length y_6) : Int) != (↑(List.length y_1) : Int) then true else (↑(List.length y_7) : Int) != (↑(List.length y_1) : Int) then some false else bindO (iter s0 { l := x.l,bits := y_1,care := 0,p := y_5,q := y_6,r2 := y_7,i := 0,ai := y.fst,as_ := y.snd,gi := y_4.fst,gs := y_4.snd.fst }) fun s => sumC s (fun y => bindO (M22.m { i := y.ai,s := y.as_ }) fun y_8 => bindO (bif !y_8 != y.care then M22.m { i := y.gi,s := y.gs } else some (Int.ofNat 0)) fun y_9 => bif bif y_8 != y.care then true else y_9 != (↑y.bits.length : Int) then some false else bindO (iter s1 { l := y.l,bits := y.bits,at__lo := 0,at__len := 0,i := 0,ai := y.ai,as_ := y.as_,xs := [] }) fun y => bindO (M23o.m { i := y.ai,s := y.as_,l_lo := y.at__lo,l_len := y.at__len,ls := y.xs }) fun y_10 => bindO (M14.m { i := y_10.fst,s := y_10.snd.fst }) fun y_11 => bindO (bif !bif y_10.snd.snd.fst != 0 then true else (↑(List.length y_11) : Int) != (↑y.bits.length : Int) then M17.m { ai := y_10.fst,as_ := y_10.snd.fst,bi := y.ai,bs := y.as_ } else some false) fun y_12 => bif bif bif y_10.snd.snd.fst != 0 then true else (↑(List.length y_11) : Int) != (↑y.bits.length : Int) then true else !y_12 then some false else bindO (iter s2 { bits := y.bits,at__lo := y.at__lo,at__len := y.at__len,got := y_11,i := 0,ai := y.ai,as_ := y.as_,xs := y.xs }) fun s => sumC s (fun y => bindO (bif !decide ((↑y.bits.length : Int) > 8) then M24.m { i := y.ai,s := y.as_ } else some false) fun y_13 => bindO (bif bif decide ((↑y.bits.length : Int) > 8) then true else y_13 then M10.m PUnit.unit else some false) fun y_14 => some (bif bif decide ((↑y.bits.length : Int) > 8) then true else y_13 then y_14 else false)) fun z => some z.r) fun z => some z.r
theorem m_eq (x : gX) : exec E0 230 C4 0 (initS 0 (g.A x)) (g.H x) (finish 0 ty [.tmp 4] f) = m x := by kernel_rfl
theorem tl : topL C4 0 = [(0,C4.bodyAt 0),(1,C4.bodyAt 1),(2,C4.bodyAt 2)] := by kernel_rfl
theorem known : Known Try.prog 4 g f m :=
 mk_known mixed (env_ok ty_ok cl_ok _) s4 rfl rfl tl (AllL.cons rfl l0_ok (AllL.cons rfl l1_ok (AllL.cons rfl l2_ok AllL.nil))) (fun _ _ => ⟨rfl,rfl⟩) (fun _ _ => ⟨rfl,rfl⟩) m_eq
end M4
end Go.Proofs.Ytnmlmdlhhphcoaa
