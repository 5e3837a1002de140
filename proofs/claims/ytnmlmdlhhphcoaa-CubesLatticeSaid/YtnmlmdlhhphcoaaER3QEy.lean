/-
  What the proof stands on.
-/
import Derived.Test.YtnmlmdlhhphcoaaER3QE9
import Derived.Test.YtnmlmdlhhphcoaaER3QEx
import Derived.Test.YtnmlmdlhhphcoaaER3QEk
set_option linter.all false
namespace Go.Proofs.Ytnmlmdlhhphcoaa
open Go.Abs
set_option maxRecDepth 100000
namespace M12
structure gX where
 pi : List (Int)
 ps : List (Int)
 qi : List (Int)
 qs : List (Int)
def g : Sg gX where
 vs := [.agg [.arr (.int .u8),.arr (.int .u8)],.agg [.arr (.int .u8),.arr (.int .u8)]]
 h := []
 to := fun a b => ⟨a.1.1,a.1.2.1,a.2.1.1,a.2.1.2.1⟩
 fa := fun x => ((x.pi,(x.ps,())),((x.qi,(x.qs,())),()))
 fh := fun x => ()
abbrev fY := List (Int) × List (Int)
def f : Ft fY where
 ord := none
 sh := .agg [.arr (.int .u8),.arr (.int .u8)]
 h := []
 to := fun a b => (a.1,a.2.1)
 fv := fun y => (y.1,(y.2,()))
 fh := fun y => ()
def cl : List (FuncId × Con) := []
theorem cl_ok : allCon Try.prog cl := trivial
def E2 : Env := ⟨ty,cfOf cl,fun _ => none,none⟩
structure p1X where
 i : Int
 pi : List (Int)
 ps : List (Int)
 qi : List (Int)
 qs : List (Int)
 oi_lo : Nat
 oi_len : Nat
 os_lo : Nat
 os_len : Nat
 xs : List (Int)
 ys : List (Int)
def p1 : Pt p1X where
 own := [.cell 3 1 (.int .u8)]
 t := ⟨[(2,.c (.ptr 0 0)),(3,.c (.ptr 1 0)),(4,.c (.ptr 2 0)),(5,.c (.ptr 3 0)),(8,.c (.it .i64))],[.st [.arr (.int .u8),.arr (.int .u8)] 1 0,.st [.arr (.int .u8),.arr (.int .u8)] 1 0,.st [.junk,.junk] 1 0,.st [.sl 4 0 1,.sl 5 0 1] 1 0,.arr (.int .u8) 0,.arr (.int .u8) 0]⟩
 to := fun v => ⟨v.1.2.2.2.2.1,v.2.1.1,v.2.1.2.1,v.2.2.1.1,v.2.2.1.2.1,v.2.2.2.2.1.1.1,v.2.2.2.2.1.1.2,v.2.2.2.2.1.2.1.1,v.2.2.2.2.1.2.1.2,v.2.2.2.2.2.1,v.2.2.2.2.2.2.1⟩
 fr := fun x => (((),((),((),((),(x.i,()))))),((x.pi,(x.ps,())),((x.qi,(x.qs,())),(((),((),())),(((x.oi_lo,x.oi_len),((x.os_lo,x.os_len),())),(x.xs,(x.ys,())))))))
structure q1X where
 pi : List (Int)
 ps : List (Int)
 qi : List (Int)
 qs : List (Int)
 oi_lo : Nat
 oi_len : Nat
 os_lo : Nat
 os_len : Nat
 xs : List (Int)
 ys : List (Int)
def q1 : Pt q1X where
 own := []
 t := ⟨[(4,.c (.ptr 2 0)),(5,.c (.ptr 3 0))],[.st [.arr (.int .u8),.arr (.int .u8)] 1 0,.st [.arr (.int .u8),.arr (.int .u8)] 1 0,.st [.junk,.junk] 1 0,.st [.sl 4 0 1,.sl 5 0 1] 1 0,.arr (.int .u8) 0,.arr (.int .u8) 0]⟩
 to := fun v => ⟨v.2.1.1,v.2.1.2.1,v.2.2.1.1,v.2.2.1.2.1,v.2.2.2.2.1.1.1,v.2.2.2.2.1.1.2,v.2.2.2.2.1.2.1.1,v.2.2.2.2.1.2.1.2,v.2.2.2.2.2.1,v.2.2.2.2.2.2.1⟩
 fr := fun x => (((),((),())),((x.pi,(x.ps,())),((x.qi,(x.qs,())),(((),((),())),(((x.oi_lo,x.oi_len),((x.os_lo,x.os_len),())),(x.xs,(x.ys,())))))))
def s1 (x : p1X) : Option (p1X ⊕ q1X) := bif decide (x.i < (↑x.ps.length : Int)) then bif bif inR x.i x.qs.length && true then true else bif decide (x.i < (↑x.qs.length : Int)) then false else true then bif eqN x.os_lo 0 && eqN x.ys.length x.os_len && roomB (x.os_len + 1) 1 then some (Sum.inl { i := IntKind.i64.wrap (x.i + 1),pi := x.pi,ps := x.ps,qi := x.qi,qs := x.qs,oi_lo := x.oi_lo,oi_len := x.oi_len,os_lo := 0,os_len := x.os_len + 1,xs := x.xs,ys := x.ys ++ [bif decide (x.i < (↑x.qs.length : Int)) then x.qs[x.i.toNat]?.getD 0 else 2] }) else none else none
else some (Sum.inr { pi := x.pi,ps := x.ps,qi := x.qi,qs := x.qs,oi_lo := x.oi_lo,oi_len := x.oi_len,os_lo := x.os_lo,os_len := x.os_len,xs := x.xs,ys := x.ys })
theorem s1_eq (x : p1X) : exec E2 57 (C12.bodyAt 1) 2 (p1.R x) (p1.H x) (roundK 0 p1 (.exit 2) q1) = s1 x := by kernel_rfl
noncomputable def l1 : LoopS := mkLoop 0 p1 (.exit 2) q1 s1
theorem tl1 : topL (C12.bodyAt 1) 2 = [] := by kernel_rfl
theorem l1_ok  : LoopOkS Try.prog 57 none 0 (C12.bodyAt 1) l1 := mkLoop_ok mixed (env_ok ty_ok cl_ok _) (by trivial) (fun _ => rfl) (fun _ => rfl) (tl1 ▸ AllL.nil) s1_eq
noncomputable def E1 : Env := ⟨ty,cfOf cl,lpOf [(1,l1)],none⟩
structure p0X where
 i : Int
 pi : List (Int)
 ps : List (Int)
 qi : List (Int)
 qs : List (Int)
 oi_lo : Nat
 oi_len : Nat
 xs : List (Int)
def p0 : Pt p0X where
 own := [.cell 3 0 (.int .u8)]
 t := ⟨[(2,.c (.ptr 0 0)),(3,.c (.ptr 1 0)),(4,.c (.ptr 2 0)),(5,.c (.ptr 3 0)),(6,.c (.it .i64))],[.st [.arr (.int .u8),.arr (.int .u8)] 1 0,.st [.arr (.int .u8),.arr (.int .u8)] 1 0,.st [.junk,.junk] 1 0,.st [.sl 4 0 1,.nils] 1 0,.arr (.int .u8) 0]⟩
 to := fun v => ⟨v.1.2.2.2.2.1,v.2.1.1,v.2.1.2.1,v.2.2.1.1,v.2.2.1.2.1,v.2.2.2.2.1.1.1,v.2.2.2.2.1.1.2,v.2.2.2.2.2.1⟩
 fr := fun x => (((),((),((),((),(x.i,()))))),((x.pi,(x.ps,())),((x.qi,(x.qs,())),(((),((),())),(((x.oi_lo,x.oi_len),((),())),(x.xs,()))))))
structure q0X where
 pi : List (Int)
 ps : List (Int)
 qi : List (Int)
 qs : List (Int)
 oi_lo : Nat
 oi_len : Nat
 xs : List (Int)
def q0 : Pt q0X where
 own := []
 t := ⟨[(2,.c (.ptr 0 0)),(3,.c (.ptr 1 0)),(4,.c (.ptr 2 0)),(5,.c (.ptr 3 0))],[.st [.arr (.int .u8),.arr (.int .u8)] 1 0,.st [.arr (.int .u8),.arr (.int .u8)] 1 0,.st [.junk,.junk] 1 0,.st [.sl 4 0 1,.nils] 1 0,.arr (.int .u8) 0]⟩
 to := fun v => ⟨v.2.1.1,v.2.1.2.1,v.2.2.1.1,v.2.2.1.2.1,v.2.2.2.2.1.1.1,v.2.2.2.2.1.1.2,v.2.2.2.2.2.1⟩
 fr := fun x => (((),((),((),((),())))),((x.pi,(x.ps,())),((x.qi,(x.qs,())),(((),((),())),(((x.oi_lo,x.oi_len),((),())),(x.xs,()))))))
def s0 (x : p0X) : Option (p0X ⊕ q0X) := bif decide (x.i < (↑x.pi.length : Int)) then bif bif inR x.i x.qi.length && true then true else bif decide (x.i < (↑x.qi.length : Int)) then false else true then bif eqN x.oi_lo 0 && eqN x.xs.length x.oi_len && roomB (x.oi_len + 1) 1 then some (Sum.inl { i := IntKind.i64.wrap (x.i + 1),pi := x.pi,ps := x.ps,qi := x.qi,qs := x.qs,oi_lo := 0,oi_len := x.oi_len + 1,xs := x.xs ++ [bif decide (x.i < (↑x.qi.length : Int)) then x.qi[x.i.toNat]?.getD 0 else 2] }) else none else none
else some (Sum.inr { pi := x.pi,ps := x.ps,qi := x.qi,qs := x.qs,oi_lo := x.oi_lo,oi_len := x.oi_len,xs := x.xs })
theorem s0_eq (x : p0X) : exec E1 57 (C12.bodyAt 0) 1 (p0.R x) (p0.H x) (roundK 0 p0 (.exit 0) q0) = s0 x := by kernel_rfl
noncomputable def l0 : LoopS := mkLoop 0 p0 (.exit 0) q0 s0
theorem tl0 : topL (C12.bodyAt 0) 1 = [] := by kernel_rfl
theorem l0_ok  : LoopOkS Try.prog 57 none 0 (C12.bodyAt 0) l0 := mkLoop_ok mixed (env_ok ty_ok cl_ok _) (by trivial) (fun _ => rfl) (fun _ => rfl) (tl0 ▸ AllL.nil) s0_eq
noncomputable def E0 : Env := ⟨ty,cfOf cl,lpOf [(0,l0),(1,l1)],none⟩
noncomputable def m (x : gX) : Option fY := bindO (iter s0 { i := 0,pi := x.pi,ps := x.ps,qi := x.qi,qs := x.qs,oi_lo := 0,oi_len := 0,xs := [] }) fun y => bindO (iter s1 { i := 0,pi := y.pi,ps := y.ps,qi := y.qi,qs := y.qs,oi_lo := y.oi_lo,oi_len := y.oi_len,os_lo := 0,os_len := 0,xs := y.xs,ys := [] }) fun y => bif leB (y.oi_lo + y.oi_len) y.xs.length && (leB (y.os_lo + y.os_len) y.ys.length && true) && true && true then some (List.take y.oi_len (List.drop y.oi_lo y.xs),List.take y.os_len (List.drop y.os_lo y.ys)) else none
theorem m_eq (x : gX) : exec E0 57 C12 0 (initS 0 (g.A x)) (g.H x) (finish 0 ty [.cell 4 24] f) = m x := by kernel_rfl
theorem tl : topL C12 0 = [(0,C12.bodyAt 0),(1,C12.bodyAt 1)] := by kernel_rfl
theorem known : Known Try.prog 12 g f m :=
 mk_known mixed (env_ok ty_ok cl_ok _) s12 rfl rfl tl (AllL.cons rfl l0_ok (AllL.cons rfl l1_ok AllL.nil)) (fun _ _ => ⟨rfl,rfl⟩) (fun _ _ => ⟨rfl,rfl⟩) m_eq
noncomputable def con : Con := conT g f m default
theorem con_ok : ConOk Try.prog 12 con := conT_ok known (fun _ => rfl) rfl
end M12
end Go.Proofs.Ytnmlmdlhhphcoaa
namespace Go.Proofs.Ytnmlmdlhhphcoaa
open Go.Abs
set_option maxRecDepth 100000
namespace M10
abbrev gX := Unit
def g : Sg gX where
 vs := []
 h := []
 to := fun a b => ()
 fa := fun x => ()
 fh := fun x => ()
abbrev fY := Bool
def f : Ft fY where
 ord := none
 sh := .c (.bo)
 h := []
 to := fun a b => (a)
 fv := fun y => y
 fh := fun y => ()
noncomputable def cl : List (FuncId × Con) := [(31,M31.con),(13,M13.con),(19,M19.con),(30,M30.con),(23,M23.con),(17,M17.con),(18,M18.con),(27,M27.con),(26,M26.con)]
theorem cl_ok : allCon Try.prog cl := ⟨M31.con_ok,M13.con_ok,M19.con_ok,M30.con_ok,M23.con_ok,M17.con_ok,M18.con_ok,M27.con_ok,M26.con_ok,trivial⟩
noncomputable def E0 : Env := ⟨ty,cfOf cl,fun _ => none,none⟩
noncomputable def m (x : gX) : Option fY := bindO (M31.m { s := [48,88,88,124,49] }) fun y => bindO (M31.m { s := [48,88,49,124,88] }) fun y_1 => bindO (M13.m { ai := y.fst,as_ := y.snd,bi := y_1.fst,bs := y_1.snd }) fun y => bindO (M31.m { s := [48,88,124] }) fun y_2 => bindO (M31.m { s := [49,88,124] }) fun y_3 => bindO (M13.m { ai := y_2.fst,as_ := y_2.snd,bi := y_3.fst,bs := y_3.snd }) fun y_4 => bindO (M31.m { s := [88,88,49,88,124,48,88] }) fun y_5 => bindO (M19.m { i := y_5.fst,s := y_5.snd,w := 2 }) fun y_6 => bindO (M31.m { s := [88,88,49,88,124,48,88] }) fun y_7 => bindO (M19.m { i := y_7.fst,s := y_7.snd,w := 1 }) fun y_8 => bindO (M31.m { s := [88,48,124,88] }) fun y_9 => bindO (M30.m { i := y_9.fst,s := y_9.snd }) fun y_10 => bindO (bif !y.snd.snd != 0 then M26.m { i := y.fst,s := y.snd.fst } else some []) fun y_11 => bindO (bif !bif bif y.snd.snd != 0 then true else !y_11 == [48,88,49,124,49] then true else y_4.snd.snd != 9 then M31.m { s := [48,49,88,124,49] } else some ([],[])) fun y_12 => bindO (bif !bif bif y.snd.snd != 0 then true else !y_11 == [48,88,49,124,49] then true else y_4.snd.snd != 9 then M31.m { s := [49,48,88,124,88] } else some ([],[])) fun y_13 => bindO (bif !bif bif y.snd.snd != 0 then true else !y_11 == [48,88,49,124,49] then true else y_4.snd.snd != 9 then M18.m { ai := y_12.fst,as_ := y_12.snd,bi := y_13.fst,bs := y_13.snd } else some (Int.ofNat 0)) fun y_14 => bindO (bif !bif bif bif bif y.snd.snd != 0 then true else !y_11 == [48,88,49,124,49] then true else y_4.snd.snd != 9 then true else y_14 != 2 then true else y_6.snd.snd != 0 then M26.m { i := y_6.fst,s := y_6.snd.fst } else some []) fun y_15 => bindO (bif !bif bif bif bif bif bif y.snd.snd != 0 then true else !y_11 == [48,88,49,124,49] then true else y_4.snd.snd != 9 then true else y_14 != 2 then true else y_6.snd.snd != 0 then true else !y_15 == [49,49,49,49,124,48,48] then true else y_8.snd.snd != 0 then M26.m { i := y_8.fst,s := y_8.snd.fst } else some []) fun y_16 => bif inR 1 y_10.fst.length || !!bif bif bif bif bif bif bif bif bif y.snd.snd != 0 then true else !y_11 == [48,88,49,124,49] then true else y_4.snd.snd != 9 then true else y_14 != 2 then true else y_6.snd.snd != 0 then true else !y_15 == [49,49,49,49,124,48,48] then true else y_8.snd.snd != 0 then true else !y_16 == [49,49,49,49,124,48,49] then true else y_10.snd != 0 then true else (↑y_10.fst.length : Int) != 4 then bindO (bif !bif bif bif bif bif bif bif bif bif y.snd.snd != 0 then true else !y_11 == [48,88,49,124,49] then true else y_4.snd.snd != 9 then true else y_14 != 2 then true else y_6.snd.snd != 0 then true else !y_15 == [49,49,49,49,124,48,48] then true else y_8.snd.snd != 0 then true else !y_16 == [49,49,49,49,124,48,49] then true else y_10.snd != 0 then true else (↑y_10.fst.length : Int) != 4 then M26.m { i := (y_10.fst[1]?.getD ([],[])).fst,s := (y_10.fst[1]?.getD ([],[])).snd } else some []) fun y_17 => bif inR 2 y_10.fst.length || !!bif bif bif bif bif bif bif bif bif bif y.snd.snd != 0 then true else !y_11 == [48,88,49,124,49] then true else y_4.snd.snd != 9 then true else y_14 != 2 then true else y_6.snd.snd != 0 then true else !y_15 == [49,49,49,49,124,48,48] then true else y_8.snd.snd != 0 then true else !y_16 == [49,49,49,49,124,48,49] then true else y_10.snd != 0 then true else (↑y_10.fst.length : Int) != 4 then true else !y_17 == [48,48,124,49] then bindO (bif !bif bif bif bif bif bif bif bif bif bif y.snd.snd != 0 then true else !y_11 == [48,88,49,124,49] then true else y_4.snd.snd != 9 then true else y_14 != 2 then true else y_6.snd.snd != 0 then true else !y_15 == [49,49,49,49,124,48,48] then true else y_8.snd.snd != 0 then true else !y_16 == [49,49,49,49,124,48,49] then true else y_10.snd != 0 then true else (↑y_10.fst.length : Int) != 4 then true else !y_17 == [48,48,124,49] then M26.m { i := (y_10.fst[2]?.getD ([],[])).fst,s := (y_10.fst[2]?.getD ([],[])).snd } else some []) fun y_18 => bif bif bif bif bif bif bif bif bif bif bif bif y.snd.snd != 0 then true else !y_11 == [48,88,49,124,49] then true else y_4.snd.snd != 9 then true else y_14 != 2 then true else y_6.snd.snd != 0 then true else !y_15 == [49,49,49,49,124,48,48] then true else y_8.snd.snd != 0 then true else !y_16 == [49,49,49,49,124,48,49] then true else y_10.snd != 0 then true else (↑y_10.fst.length : Int) != 4 then true else !y_17 == [48,48,124,49] then true else !y_18 == [49,48,124,48] then some false else bindO (M31.m { s := [48,49,49,124,48] }) fun y => bindO (M23.m { i := y.fst,s := y.snd,l := [0,3] }) fun y => bindO (M27.m { s := [48,49] }) fun y_19 => bindO (M27.m { s := [48,124,50] }) fun y_20 => bindO (M27.m { s := [124] }) fun y_21 => bindO (M31.m { s := [88,49,124] }) fun y_22 => bindO (M31.m { s := [48,49,124] }) fun y_23 => bindO (M17.m { ai := y_22.fst,as_ := y_22.snd,bi := y_23.fst,bs := y_23.snd }) fun y_24 => bindO (bif y_24 then M31.m { s := [48,49,124] } else some ([],[])) fun y_25 => bindO (bif y_24 then M31.m { s := [88,49,124] } else some ([],[])) fun y_26 => bindO (bif y_24 then M17.m { ai := y_25.fst,as_ := y_25.snd,bi := y_26.fst,bs := y_26.snd } else some false) fun y_27 => bindO (bif bif bif y_24 then !y_27 else false then y.snd.snd == 0 else false then M26.m { i := y.fst,s := y.snd.fst } else some []) fun y_28 => some (bif bif bif bif bif bif bif y_24 then !y_27 else false then y.snd.snd == 0 else false then y_28 == [88,49,49,124,88] else false then y_19.snd.snd == 4 else false then y_20.snd.snd == 4 else false then y_21.snd.snd == 0 else false then IntKind.i64.wrap ((↑y_21.fst.length : Int) + (↑y_21.snd.fst.length : Int)) == 0 else false) else none else none
theorem m_eq (x : gX) : exec E0 162 C10 0 (initS 0 (g.A x)) (g.H x) (finish 0 ty [.tmp 0] f) = m x := by kernel_rfl
theorem tl : topL C10 0 = [] := by kernel_rfl
theorem known : Known Try.prog 10 g f m :=
 mk_known mixed (env_ok ty_ok cl_ok _) s10 rfl rfl tl AllL.nil (fun _ _ => ⟨rfl,rfl⟩) (fun _ _ => ⟨rfl,rfl⟩) m_eq
noncomputable def con : Con := conT g f m default
theorem con_ok : ConOk Try.prog 10 con := conT_ok known (fun _ => rfl) rfl
end M10
end Go.Proofs.Ytnmlmdlhhphcoaa
namespace Go.Proofs.Ytnmlmdlhhphcoaa
open Go.Abs
set_option maxRecDepth 100000
end Go.Proofs.Ytnmlmdlhhphcoaa
namespace Go.Proofs.Ytnmlmdlhhphcoaa
open Go.Abs
set_option maxRecDepth 100000
end Go.Proofs.Ytnmlmdlhhphcoaa
namespace Go.Proofs.Ytnmlmdlhhphcoaa
open Go.Abs
set_option maxRecDepth 100000
namespace M3
structure gX where
 xi : List (Int)
 xs : List (Int)
 yi : List (Int)
 ys : List (Int)
def g : Sg gX where
 vs := [.agg [.arr (.int .u8),.arr (.int .u8)],.agg [.arr (.int .u8),.arr (.int .u8)]]
 h := []
 to := fun a b => ⟨a.1.1,a.1.2.1,a.2.1.1,a.2.1.2.1⟩
 fa := fun x => ((x.xi,(x.xs,())),((x.yi,(x.ys,())),()))
 fh := fun x => ()
abbrev fY := Bool
def f : Ft fY where
 ord := none
 sh := .c (.bo)
 h := []
 to := fun a b => (a)
 fv := fun y => y
 fh := fun y => ()
noncomputable def cl : List (FuncId × Con) := [(9,M9.con),(10,M10.con),(11,M11.con),(12,M12.con),(13,M13.con),(14,M14.con),(15,M15.con),(16,M16.con),(17,M17.con),(18,M18.con)]
theorem cl_ok : allCon Try.prog cl := ⟨M9.con_ok,M10.con_ok,M11.con_ok,M12.con_ok,M13.con_ok,M14.con_ok,M15.con_ok,M16.con_ok,M17.con_ok,M18.con_ok,trivial⟩
noncomputable def E1 : Env := ⟨ty,cfOf cl,fun _ => none,none⟩
structure p0X where
 e : Int
 common : Int
 covers : Bool
 n : Int
 ai : List (Int)
 as_ : List (Int)
 bi : List (Int)
 bs : List (Int)
 mi : List (Int)
 ms : List (Int)
def p0 : Pt p0X where
 own := []
 t := ⟨[(5,.c (.ptr 2 0)),(6,.c (.ptr 3 0)),(7,.c (.ptr 10 0)),(8,.c (.it .i64)),(9,.c (.it .i64)),(10,.c (.bo)),(11,.c (.it .i64))],[.st [.junk,.junk] 1 0,.st [.junk,.junk] 1 0,.st [.arr (.int .u8),.arr (.int .u8)] 1 0,.st [.arr (.int .u8),.arr (.int .u8)] 1 0,.st [.junk] 1 0,.st [.junk] 1 0,.st [.junk] 1 0,.st [.junk] 1 0,.st [.junk] 1 0,.st [.junk] 1 0,.st [.arr (.int .u8),.arr (.int .u8)] 1 0]⟩
 to := fun v => ⟨v.1.2.2.2.1,v.1.2.2.2.2.1,v.1.2.2.2.2.2.1,v.1.2.2.2.2.2.2.1,v.2.2.2.1.1,v.2.2.2.1.2.1,v.2.2.2.2.1.1,v.2.2.2.2.1.2.1,v.2.2.2.2.2.2.2.2.2.2.2.1.1,v.2.2.2.2.2.2.2.2.2.2.2.1.2.1⟩
 fr := fun x => (((),((),((),(x.e,(x.common,(x.covers,(x.n,()))))))),(((),((),())),(((),((),())),((x.ai,(x.as_,())),((x.bi,(x.bs,())),(((),()),(((),()),(((),()),(((),()),(((),()),(((),()),((x.mi,(x.ms,())),()))))))))))))
structure q0X where
 e : Int
 common : Int
 covers : Bool
 ai : List (Int)
 as_ : List (Int)
 bi : List (Int)
 bs : List (Int)
 mi : List (Int)
 ms : List (Int)
def q0 : Pt q0X where
 own := []
 t := ⟨[(5,.c (.ptr 2 0)),(6,.c (.ptr 3 0)),(7,.c (.ptr 10 0)),(8,.c (.it .i64)),(9,.c (.it .i64)),(10,.c (.bo))],[.st [.junk,.junk] 1 0,.st [.junk,.junk] 1 0,.st [.arr (.int .u8),.arr (.int .u8)] 1 0,.st [.arr (.int .u8),.arr (.int .u8)] 1 0,.st [.junk] 1 0,.st [.junk] 1 0,.st [.junk] 1 0,.st [.junk] 1 0,.st [.junk] 1 0,.st [.junk] 1 0,.st [.arr (.int .u8),.arr (.int .u8)] 1 0]⟩
 to := fun v => ⟨v.1.2.2.2.1,v.1.2.2.2.2.1,v.1.2.2.2.2.2.1,v.2.2.2.1.1,v.2.2.2.1.2.1,v.2.2.2.2.1.1,v.2.2.2.2.1.2.1,v.2.2.2.2.2.2.2.2.2.2.2.1.1,v.2.2.2.2.2.2.2.2.2.2.2.1.2.1⟩
 fr := fun x => (((),((),((),(x.e,(x.common,(x.covers,())))))),(((),((),())),(((),((),())),((x.ai,(x.as_,())),((x.bi,(x.bs,())),(((),()),(((),()),(((),()),(((),()),(((),()),(((),()),((x.mi,(x.ms,())),()))))))))))))
structure z0X where
 r : Bool
def z0 : Pt z0X where
 own := []
 t := ⟨[(4,.c (.bo))],[]⟩
 to := fun v => ⟨v.1.1⟩
 fr := fun x => ((x.r,()),())
noncomputable def s0 (x : p0X) : Option (p0X ⊕ (q0X ⊕ z0X)) := bindO (M14.m { i := x.ai,s := x.as_ }) fun y => bif decide (0 ≤ (↑(List.length y) : Int)) then bif decide (x.n < IntKind.i64.wrap (1 * 2 ^ min (↑(List.length y) : Int).toNat 64)) then bindO (M15.m { i := x.ai,s := x.as_,n := x.n }) fun y => bindO (M15.m { i := x.bi,s := x.bs,n := x.n }) fun y_1 => bindO (bif x.e == 0 then M15.m { i := x.mi,s := x.ms,n := x.n } else some false) fun y_2 => bif bif x.e == 0 then !y_2 == bif y then y_1 else false else false then some (Sum.inr (Sum.inr { r := false })) else some (Sum.inl { e := x.e,common := bif bif y then y_1 else false then IntKind.i64.wrap (x.common + 1) else x.common,covers := bif x.covers then bif y then true else !y_1 else false,n := IntKind.i64.wrap (x.n + 1),ai := x.ai,as_ := x.as_,bi := x.bi,bs := x.bs,mi := x.mi,ms := x.ms }) else some (Sum.inr (Sum.inl { e := x.e,common := x.common,covers := x.covers,ai := x.ai,as_ := x.as_,bi := x.bi,bs := x.bs,mi := x.mi,ms := x.ms })) else none
theorem s0_eq (x : p0X) : exec E1 146 (C3.bodyAt 0) 1 (p0.R x) (p0.H x) (roundK2 0 p0 (.exit 0) q0 .ret z0) = s0 x := by kernel_rfl
noncomputable def l0 : LoopS := mkLoop2 0 p0 (.exit 0) q0 .ret z0 s0
theorem tl0 : topL (C3.bodyAt 0) 1 = [] := by kernel_rfl
theorem l0_ok  : LoopOkS Try.prog 146 none 0 (C3.bodyAt 0) l0 := mkLoop2_ok mixed (env_ok ty_ok cl_ok _) (by trivial) (by trivial) (fun _ => rfl) (fun _ => rfl) (fun _ => rfl) (tl0 ▸ AllL.nil) s0_eq
noncomputable def E0 : Env := ⟨ty,cfOf cl,lpOf [(0,l0)],none⟩
noncomputable def m (x : gX) : Option fY := bindO (M9.m { most := 8,l := [(x.xi,x.xs)] }) fun y => bif !!y then bindO (M9.m { most := 30,l := [(x.yi,x.ys)] }) fun y => bif !y then bindO (M10.m PUnit.unit) fun y => some y else bindO (M11.m { i := x.xi,s := x.xs }) fun y => bindO (M12.m { pi := x.xi,ps := x.xs,qi := x.yi,qs := x.ys }) fun y_1 => bindO (M11.m { i := y_1.fst,s := y_1.snd }) fun y_2 => bindO (M13.m { ai := y.fst,as_ := y.snd,bi := y_2.fst,bs := y_2.snd }) fun y_3 => bindO (iter s0 { e := y_3.snd.snd,common := 0,covers := true,n := 0,ai := y.fst,as_ := y.snd,bi := y_2.fst,bs := y_2.snd,mi := y_3.fst,ms := y_3.snd.fst }) fun s => sumC s (fun y => bif bif bif !(y.e == 0) == decide (y.common > 0) then true else bif !decide (y.common > 0) then bif y.e != 9 then true else decide (IntKind.i64.wrap ((↑y.mi.length : Int) + (↑y.ms.length : Int)) > 0) else false then true else bif decide (y.common > 0) then bif (↑y.mi.length : Int) != (↑y.ai.length : Int) then true else (↑y.ms.length : Int) != (↑y.as_.length : Int) else false then some false else bindO (M16.m { ai := y.ai,as_ := y.as_,bi := y.bi,bs := y.bs }) fun y_4 => bindO (bif y_4 == decide (y.common > 0) then M17.m { ai := y.ai,as_ := y.as_,bi := y.bi,bs := y.bs } else some false) fun y_5 => bindO (bif bif y_4 == decide (y.common > 0) then y_5 == y.covers else false then M18.m { ai := y.ai,as_ := y.as_,bi := y.bi,bs := y.bs } else some (Int.ofNat 0)) fun y_6 => bindO (bif bif bif y_4 == decide (y.common > 0) then y_5 == y.covers else false then (y_6 == 0) == decide (y.common > 0) else false then M10.m PUnit.unit else some false) fun y_7 => some (bif bif bif y_4 == decide (y.common > 0) then y_5 == y.covers else false then (y_6 == 0) == decide (y.common > 0) else false then y_7 else false)) fun z => some z.r else bindO (M10.m PUnit.unit) fun y => some y
theorem m_eq (x : gX) : exec E0 146 C3 0 (initS 0 (g.A x)) (g.H x) (finish 0 ty [.tmp 4] f) = m x := by kernel_rfl
theorem tl : topL C3 0 = [(0,C3.bodyAt 0)] := by kernel_rfl
theorem known : Known Try.prog 3 g f m :=
 mk_known mixed (env_ok ty_ok cl_ok _) s3 rfl rfl tl (AllL.cons rfl l0_ok AllL.nil) (fun _ _ => ⟨rfl,rfl⟩) (fun _ _ => ⟨rfl,rfl⟩) m_eq
end M3
end Go.Proofs.Ytnmlmdlhhphcoaa
