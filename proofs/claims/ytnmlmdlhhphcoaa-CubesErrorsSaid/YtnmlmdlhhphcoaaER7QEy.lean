/-
  What the proof stands on.
-/
import Derived.Test.YtnmlmdlhhphcoaaER7QE9
import Derived.Test.YtnmlmdlhhphcoaaER7QEx
import Derived.Test.YtnmlmdlhhphcoaaER7QEk
set_option linter.all false
namespace Go.Proofs.Ytnmlmdlhhphcoaa
open Go.Abs
set_option maxRecDepth 100000
namespace M28
structure gX where
 a : List (Int)
 b : List (Int)
def g : Sg gX where
 vs := [.agg [.arr (.int .u8),.arr (.int .u8)]]
 h := []
 to := fun a b => ⟨a.1.1,a.1.2.1⟩
 fa := fun x => ((x.a,(x.b,())),())
 fh := fun x => ()
abbrev fY := List (Int) × List (Int) × Int
def f : Ft fY where
 ord := none
 sh := .tup [.inr [.arr (.int .u8),.arr (.int .u8)],.inl (.it .i64)]
 h := []
 to := fun a b => (a.1.1,a.1.2.1,a.2.1)
 fv := fun y => ((y.1,(y.2.1,())),(y.2.2,()))
 fh := fun y => ()
def cl : List (FuncId × Con) := []
theorem cl_ok : allCon Try.prog cl := trivial
def E2 : Env := ⟨ty,cfOf cl,fun _ => none,none⟩
structure p1X where
 e : Int
 i : Int
 a : List (Int)
 b : List (Int)
 pi_lo : Nat
 pi_len : Nat
 ps_lo : Nat
 ps_len : Nat
 xs : List (Int)
 ys : List (Int)
def p1 : Pt p1X where
 own := [.cell 2 1 (.int .u8)]
 t := ⟨[(1,.c (.ptr 0 0)),(2,.c (.ptr 1 0)),(4,.c (.ptr 2 0)),(5,.c (.it .i64)),(7,.c (.it .i64))],[.st [.arr (.int .u8),.arr (.int .u8)] 1 0,.st [.junk,.junk] 1 0,.st [.sl 3 0 1,.sl 4 0 1] 1 0,.arr (.int .u8) 0,.arr (.int .u8) 0]⟩
 to := fun v => ⟨v.1.2.2.2.1,v.1.2.2.2.2.1,v.2.1.1,v.2.1.2.1,v.2.2.2.1.1.1,v.2.2.2.1.1.2,v.2.2.2.1.2.1.1,v.2.2.2.1.2.1.2,v.2.2.2.2.1,v.2.2.2.2.2.1⟩
 fr := fun x => (((),((),((),(x.e,(x.i,()))))),((x.a,(x.b,())),(((),((),())),(((x.pi_lo,x.pi_len),((x.ps_lo,x.ps_len),())),(x.xs,(x.ys,()))))))
structure q1X where
 e : Int
 a : List (Int)
 b : List (Int)
 pi_lo : Nat
 pi_len : Nat
 ps_lo : Nat
 ps_len : Nat
 xs : List (Int)
 ys : List (Int)
def q1 : Pt q1X where
 own := []
 t := ⟨[(2,.c (.ptr 1 0)),(4,.c (.ptr 2 0)),(5,.c (.it .i64))],[.st [.arr (.int .u8),.arr (.int .u8)] 1 0,.st [.junk,.junk] 1 0,.st [.sl 3 0 1,.sl 4 0 1] 1 0,.arr (.int .u8) 0,.arr (.int .u8) 0]⟩
 to := fun v => ⟨v.1.2.2.1,v.2.1.1,v.2.1.2.1,v.2.2.2.1.1.1,v.2.2.2.1.1.2,v.2.2.2.1.2.1.1,v.2.2.2.1.2.1.2,v.2.2.2.2.1,v.2.2.2.2.2.1⟩
 fr := fun x => (((),((),(x.e,()))),((x.a,(x.b,())),(((),((),())),(((x.pi_lo,x.pi_len),((x.ps_lo,x.ps_len),())),(x.xs,(x.ys,()))))))
def s1 (x : p1X) : Option (p1X ⊕ q1X) := bif decide (x.i < (↑x.b.length : Int)) then bif inR x.i x.b.length then bif eqN x.ps_lo 0 && eqN x.ys.length x.ps_len && roomB (x.ps_len + 1) 1 then bif inR x.i x.b.length then some (Sum.inl { e := bif decide (x.b[x.i.toNat]?.getD 0 > 2) then 1 else x.e,i := IntKind.i64.wrap (x.i + 1),a := x.a,b := x.b,pi_lo := x.pi_lo,pi_len := x.pi_len,ps_lo := 0,ps_len := x.ps_len + 1,xs := x.xs,ys := x.ys ++ [x.b[x.i.toNat]?.getD 0] }) else none else none else none
else some (Sum.inr { e := x.e,a := x.a,b := x.b,pi_lo := x.pi_lo,pi_len := x.pi_len,ps_lo := x.ps_lo,ps_len := x.ps_len,xs := x.xs,ys := x.ys })
theorem s1_eq (x : p1X) : exec E2 56 (C28.bodyAt 1) 2 (p1.R x) (p1.H x) (roundK 0 p1 (.exit 2) q1) = s1 x := by kernel_rfl
noncomputable def l1 : LoopS := mkLoop 0 p1 (.exit 2) q1 s1
theorem tl1 : topL (C28.bodyAt 1) 2 = [] := by kernel_rfl
theorem l1_ok  : LoopOkS Try.prog 56 none 0 (C28.bodyAt 1) l1 := mkLoop_ok mixed (env_ok ty_ok cl_ok _) (by trivial) (fun _ => rfl) (fun _ => rfl) (tl1 ▸ AllL.nil) s1_eq
noncomputable def E1 : Env := ⟨ty,cfOf cl,lpOf [(1,l1)],none⟩
structure p0X where
 e : Int
 i : Int
 a : List (Int)
 b : List (Int)
 pi_lo : Nat
 pi_len : Nat
 xs : List (Int)
def p0 : Pt p0X where
 own := [.cell 2 0 (.int .u8)]
 t := ⟨[(1,.c (.ptr 0 0)),(2,.c (.ptr 1 0)),(4,.c (.ptr 2 0)),(5,.c (.it .i64)),(6,.c (.it .i64))],[.st [.arr (.int .u8),.arr (.int .u8)] 1 0,.st [.junk,.junk] 1 0,.st [.sl 3 0 1,.nils] 1 0,.arr (.int .u8) 0]⟩
 to := fun v => ⟨v.1.2.2.2.1,v.1.2.2.2.2.1,v.2.1.1,v.2.1.2.1,v.2.2.2.1.1.1,v.2.2.2.1.1.2,v.2.2.2.2.1⟩
 fr := fun x => (((),((),((),(x.e,(x.i,()))))),((x.a,(x.b,())),(((),((),())),(((x.pi_lo,x.pi_len),((),())),(x.xs,())))))
structure q0X where
 e : Int
 a : List (Int)
 b : List (Int)
 pi_lo : Nat
 pi_len : Nat
 xs : List (Int)
def q0 : Pt q0X where
 own := []
 t := ⟨[(1,.c (.ptr 0 0)),(2,.c (.ptr 1 0)),(4,.c (.ptr 2 0)),(5,.c (.it .i64))],[.st [.arr (.int .u8),.arr (.int .u8)] 1 0,.st [.junk,.junk] 1 0,.st [.sl 3 0 1,.nils] 1 0,.arr (.int .u8) 0]⟩
 to := fun v => ⟨v.1.2.2.2.1,v.2.1.1,v.2.1.2.1,v.2.2.2.1.1.1,v.2.2.2.1.1.2,v.2.2.2.2.1⟩
 fr := fun x => (((),((),((),(x.e,())))),((x.a,(x.b,())),(((),((),())),(((x.pi_lo,x.pi_len),((),())),(x.xs,())))))
def s0 (x : p0X) : Option (p0X ⊕ q0X) := bif decide (x.i < (↑x.a.length : Int)) then bif inR x.i x.a.length then bif eqN x.pi_lo 0 && eqN x.xs.length x.pi_len && roomB (x.pi_len + 1) 1 then bif inR x.i x.a.length then some (Sum.inl { e := bif decide (x.a[x.i.toNat]?.getD 0 > 2) then 1 else x.e,i := IntKind.i64.wrap (x.i + 1),a := x.a,b := x.b,pi_lo := 0,pi_len := x.pi_len + 1,xs := x.xs ++ [x.a[x.i.toNat]?.getD 0] }) else none else none else none
else some (Sum.inr { e := x.e,a := x.a,b := x.b,pi_lo := x.pi_lo,pi_len := x.pi_len,xs := x.xs })
theorem s0_eq (x : p0X) : exec E1 56 (C28.bodyAt 0) 1 (p0.R x) (p0.H x) (roundK 0 p0 (.exit 0) q0) = s0 x := by kernel_rfl
noncomputable def l0 : LoopS := mkLoop 0 p0 (.exit 0) q0 s0
theorem tl0 : topL (C28.bodyAt 0) 1 = [] := by kernel_rfl
theorem l0_ok  : LoopOkS Try.prog 56 none 0 (C28.bodyAt 0) l0 := mkLoop_ok mixed (env_ok ty_ok cl_ok _) (by trivial) (fun _ => rfl) (fun _ => rfl) (tl0 ▸ AllL.nil) s0_eq
noncomputable def E0 : Env := ⟨ty,cfOf cl,lpOf [(0,l0),(1,l1)],none⟩
noncomputable def m (x : gX) : Option fY := bindO (iter s0 { e := 0,i := 0,a := x.a,b := x.b,pi_lo := 0,pi_len := 0,xs := [] }) fun y => bindO (iter s1 { e := y.e,i := 0,a := y.a,b := y.b,pi_lo := y.pi_lo,pi_len := y.pi_len,ps_lo := 0,ps_len := 0,xs := y.xs,ys := [] }) fun y => bif leB (y.pi_lo + y.pi_len) y.xs.length && (leB (y.ps_lo + y.ps_len) y.ys.length && true) && true && true && true then some (List.take y.pi_len (List.drop y.pi_lo y.xs),List.take y.ps_len (List.drop y.ps_lo y.ys),y.e) else none
theorem m_eq (x : gX) : exec E0 56 C28 0 (initS 0 (g.A x)) (g.H x) (finish 0 ty [.cell 2 29,.tmp 3] f) = m x := by kernel_rfl
theorem tl : topL C28 0 = [(0,C28.bodyAt 0),(1,C28.bodyAt 1)] := by kernel_rfl
theorem known : Known Try.prog 28 g f m :=
 mk_known mixed (env_ok ty_ok cl_ok _) s28 rfl rfl tl (AllL.cons rfl l0_ok (AllL.cons rfl l1_ok AllL.nil)) (fun _ _ => ⟨rfl,rfl⟩) (fun _ _ => ⟨rfl,rfl⟩) m_eq
noncomputable def con : Con := conT g f m default
theorem con_ok : ConOk Try.prog 28 con := conT_ok known (fun _ => rfl) rfl
end M28
end Go.Proofs.Ytnmlmdlhhphcoaa
namespace Go.Proofs.Ytnmlmdlhhphcoaa
open Go.Abs
set_option maxRecDepth 100000
namespace M10
abbrev gX := Unit
def g : Sg gX where
 vs := []
 h := []
 to := fun a b => ()
 fa := fun x => ()
 fh := fun x => ()
abbrev fY := Bool
def f : Ft fY where
 ord := none
 sh := .c (.bo)
 h := []
 to := fun a b => (a)
 fv := fun y => y
 fh := fun y => ()
noncomputable def cl : List (FuncId × Con) := [(31,M31.con),(13,M13.con),(19,M19.con),(30,M30.con),(23,M23.con),(17,M17.con),(18,M18.con),(27,M27.con),(26,M26.con)]
theorem cl_ok : allCon Try.prog cl := ⟨M31.con_ok,M13.con_ok,M19.con_ok,M30.con_ok,M23.con_ok,M17.con_ok,M18.con_ok,M27.con_ok,M26.con_ok,trivial⟩
noncomputable def E0 : Env := ⟨ty,cfOf cl,fun _ => none,none⟩
noncomputable def m (x : gX) : Option fY := bindO (M31.m { s := [48,88,88,124,49] }) fun y => bindO (M31.m { s := [48,88,49,124,88] }) fun y_1 => bindO (M13.m { ai := y.fst,as_ := y.snd,bi := y_1.fst,bs := y_1.snd }) fun y => bindO (M31.m { s := [48,88,124] }) fun y_2 => bindO (M31.m { s := [49,88,124] }) fun y_3 => bindO (M13.m { ai := y_2.fst,as_ := y_2.snd,bi := y_3.fst,bs := y_3.snd }) fun y_4 => bindO (M31.m { s := [88,88,49,88,124,48,88] }) fun y_5 => bindO (M19.m { i := y_5.fst,s := y_5.snd,w := 2 }) fun y_6 => bindO (M31.m { s := [88,88,49,88,124,48,88] }) fun y_7 => bindO (M19.m { i := y_7.fst,s := y_7.snd,w := 1 }) fun y_8 => bindO (M31.m { s := [88,48,124,88] }) fun y_9 => bindO (M30.m { i := y_9.fst,s := y_9.snd }) fun y_10 => bindO (bif !y.snd.snd != 0 then M26.m { i := y.fst,s := y.snd.fst } else some []) fun y_11 => bindO (bif !bif bif y.snd.snd != 0 then true else !y_11 == [48,88,49,124,49] then true else y_4.snd.snd != 9 then M31.m { s := [48,49,88,124,49] } else some ([],[])) fun y_12 => bindO (bif !bif bif y.snd.snd != 0 then true else !y_11 == [48,88,49,124,49] then true else y_4.snd.snd != 9 then M31.m { s := [49,48,88,124,88] } else some ([],[])) fun y_13 => bindO (bif !bif bif y.snd.snd != 0 then true else !y_11 == [48,88,49,124,49] then true else y_4.snd.snd != 9 then M18.m { ai := y_12.fst,as_ := y_12.snd,bi := y_13.fst,bs := y_13.snd } else some (Int.ofNat 0)) fun y_14 => bindO (bif !bif bif bif bif y.snd.snd != 0 then true else !y_11 == [48,88,49,124,49] then true else y_4.snd.snd != 9 then true else y_14 != 2 then true else y_6.snd.snd != 0 then M26.m { i := y_6.fst,s := y_6.snd.fst } else some []) fun y_15 => bindO (bif !bif bif bif bif bif bif y.snd.snd != 0 then true else !y_11 == [48,88,49,124,49] then true else y_4.snd.snd != 9 then true else y_14 != 2 then true else y_6.snd.snd != 0 then true else !y_15 == [49,49,49,49,124,48,48] then true else y_8.snd.snd != 0 then M26.m { i := y_8.fst,s := y_8.snd.fst } else some []) fun y_16 => bif inR 1 y_10.fst.length || !!bif bif bif bif bif bif bif bif bif y.snd.snd != 0 then true else !y_11 == [48,88,49,124,49] then true else y_4.snd.snd != 9 then true else y_14 != 2 then true else y_6.snd.snd != 0 then true else !y_15 == [49,49,49,49,124,48,48] then true else y_8.snd.snd != 0 then true else !y_16 == [49,49,49,49,124,48,49] then true else y_10.snd != 0 then true else (↑y_10.fst.length : Int) != 4 then bindO (bif !bif bif bif bif bif bif bif bif bif y.snd.snd != 0 then true else !y_11 == [48,88,49,124,49] then true else y_4.snd.snd != 9 then true else y_14 != 2 then true else y_6.snd.snd != 0 then true else !y_15 == [49,49,49,49,124,48,48] then true else y_8.snd.snd != 0 then true else !y_16 == [49,49,49,49,124,48,49] then true else y_10.snd != 0 then true else (↑y_10.fst.length : Int) != 4 then M26.m { i := (y_10.fst[1]?.getD ([],[])).fst,s := (y_10.fst[1]?.getD ([],[])).snd } else some []) fun y_17 => bif inR 2 y_10.fst.length || !!bif bif bif bif bif bif bif bif bif bif y.snd.snd != 0 then true else !y_11 == [48,88,49,124,49] then true else y_4.snd.snd != 9 then true else y_14 != 2 then true else y_6.snd.snd != 0 then true else !y_15 == [49,49,49,49,124,48,48] then true else y_8.snd.snd != 0 then true else !y_16 == [49,49,49,49,124,48,49] then true else y_10.snd != 0 then true else (↑y_10.fst.length : Int) != 4 then true else !y_17 == [48,48,124,49] then bindO (bif !bif bif bif bif bif bif bif bif bif bif y.snd.snd != 0 then true else !y_11 == [48,88,49,124,49] then true else y_4.snd.snd != 9 then true else y_14 != 2 then true else y_6.snd.snd != 0 then true else !y_15 == [49,49,49,49,124,48,48] then true else y_8.snd.snd != 0 then true else !y_16 == [49,49,49,49,124,48,49] then true else y_10.snd != 0 then true else (↑y_10.fst.length : Int) != 4 then true else !y_17 == [48,48,124,49] then M26.m { i := (y_10.fst[2]?.getD ([],[])).fst,s := (y_10.fst[2]?.getD ([],[])).snd } else some []) fun y_18 => bif bif bif bif bif bif bif bif bif bif bif bif y.snd.snd != 0 then true else !y_11 == [48,88,49,124,49] then true else y_4.snd.snd != 9 then true else y_14 != 2 then true else y_6.snd.snd != 0 then true else !y_15 == [49,49,49,49,124,48,48] then true else y_8.snd.snd != 0 then true else !y_16 == [49,49,49,49,124,48,49] then true else y_10.snd != 0 then true else (↑y_10.fst.length : Int) != 4 then true else !y_17 == [48,48,124,49] then true else !y_18 == [49,48,124,48] then some false else bindO (M31.m { s := [48,49,49,124,48] }) fun y => bindO (M23.m { i := y.fst,s := y.snd,l := [0,3] }) fun y => bindO (M27.m { s := [48,49] }) fun y_19 => bindO (M27.m { s := [48,124,50] }) fun y_20 => bindO (M27.m { s := [124] }) fun y_21 => bindO (M31.m { s := [88,49,124] }) fun y_22 => bindO (M31.m { s := [48,49,124] }) fun y_23 => bindO (M17.m { ai := y_22.fst,as_ := y_22.snd,bi := y_23.fst,bs := y_23.snd }) fun y_24 => bindO (bif y_24 then M31.m { s := [48,49,124] } else some ([],[])) fun y_25 => bindO (bif y_24 then M31.m { s := [88,49,124] } else some ([],[])) fun y_26 => bindO (bif y_24 then M17.m { ai := y_25.fst,as_ := y_25.snd,bi := y_26.fst,bs := y_26.snd } else some false) fun y_27 => bindO (bif bif bif y_24 then !y_27 else false then y.snd.snd == 0 else false then M26.m { i := y.fst,s := y.snd.fst } else some []) fun y_28 => some (bif bif bif bif bif bif bif y_24 then !y_27 else false then y.snd.snd == 0 else false then y_28 == [88,49,49,124,88] else false then y_19.snd.snd == 4 else false then y_20.snd.snd == 4 else false then y_21.snd.snd == 0 else false then IntKind.i64.wrap ((↑y_21.fst.length : Int) + (↑y_21.snd.fst.length : Int)) == 0 else false) else none else none
theorem m_eq (x : gX) : exec E0 162 C10 0 (initS 0 (g.A x)) (g.H x) (finish 0 ty [.tmp 0] f) = m x := by kernel_rfl
theorem tl : topL C10 0 = [] := by kernel_rfl
theorem known : Known Try.prog 10 g f m :=
 mk_known mixed (env_ok ty_ok cl_ok _) s10 rfl rfl tl AllL.nil (fun _ _ => ⟨rfl,rfl⟩) (fun _ _ => ⟨rfl,rfl⟩) m_eq
noncomputable def con : Con := conT g f m default
theorem con_ok : ConOk Try.prog 10 con := conT_ok known (fun _ => rfl) rfl
end M10
end Go.Proofs.Ytnmlmdlhhphcoaa
namespace Go.Proofs.Ytnmlmdlhhphcoaa
open Go.Abs
set_option maxRecDepth 100000
end Go.Proofs.Ytnmlmdlhhphcoaa
namespace Go.Proofs.Ytnmlmdlhhphcoaa
open Go.Abs
set_option maxRecDepth 100000
end Go.Proofs.Ytnmlmdlhhphcoaa
namespace Go.Proofs.Ytnmlmdlhhphcoaa
open Go.Abs
set_option maxRecDepth 100000
end Go.Proofs.Ytnmlmdlhhphcoaa
namespace Go.Proofs.Ytnmlmdlhhphcoaa
open Go.Abs
set_option maxRecDepth 100000
namespace M7
structure gX where
 a0 : List (Int)
 a1 : List (Int)
 b0 : List (Int)
 b1 : List (Int)
 w : Int
 l : List (Int)
def g : Sg gX where
 vs := [.agg [.arr (.int .u8),.arr (.int .u8),.arr (.int .u8),.arr (.int .u8)],.c (.it .u8),.c (.arr (.int .i64))]
 h := []
 to := fun a b => ⟨a.1.1,a.1.2.1,a.1.2.2.1,a.1.2.2.2.1,a.2.1,a.2.2.1⟩
 fa := fun x => ((x.a0,(x.a1,(x.b0,(x.b1,())))),(x.w,(x.l,())))
 fh := fun x => ()
abbrev fY := Bool
def f : Ft fY where
 ord := none
 sh := .c (.bo)
 h := []
 to := fun a b => (a)
 fv := fun y => y
 fh := fun y => ()
noncomputable def cl : List (FuncId × Con) := [(10,M10.con),(28,M28.con),(13,M13.con),(29,M29.con),(16,M16.con),(17,M17.con),(18,M18.con),(19,M19.con),(23,M23.con),(25,M25.con),(30,M30.con),(22,M22.con),(26,M26.con)]
theorem cl_ok : allCon Try.prog cl := ⟨M10.con_ok,M28.con_ok,M13.con_ok,M29.con_ok,M16.con_ok,M17.con_ok,M18.con_ok,M19.con_ok,M23.con_ok,M25.con_ok,M30.con_ok,M22.con_ok,M26.con_ok,trivial⟩
noncomputable def E1 : Env := ⟨ty,cfOf cl,fun _ => none,none⟩
structure p0X where
 w : Int
 l : List (Int)
 e : Int
 n : Int
 way : Int
 bs : Int
 i : Int
 ai : List (Int)
 as_ : List (Int)
def p0 : Pt p0X where
 own := []
 t := ⟨[(1,.c (.it .u8)),(2,.c (.arr (.int .i64))),(7,.c (.ptr 1 0)),(8,.c (.it .i64)),(11,.c (.it .i64)),(15,.c (.it .i64)),(16,.c (.it .i64)),(17,.c (.it .i64))],[.st [.junk,.junk,.junk,.junk] 1 0,.st [.arr (.int .u8),.arr (.int .u8)] 1 0]⟩
 to := fun v => ⟨v.1.1,v.1.2.1,v.1.2.2.2.1,v.1.2.2.2.2.1,v.1.2.2.2.2.2.1,v.1.2.2.2.2.2.2.1,v.1.2.2.2.2.2.2.2.1,v.2.2.1.1,v.2.2.1.2.1⟩
 fr := fun x => ((x.w,(x.l,((),(x.e,(x.n,(x.way,(x.bs,(x.i,())))))))),(((),((),((),((),())))),((x.ai,(x.as_,())),())))
structure q0X where
 w : Int
 l : List (Int)
 e : Int
 n : Int
 way : Int
 bs : Int
 ai : List (Int)
 as_ : List (Int)
def q0 : Pt q0X where
 own := []
 t := ⟨[(1,.c (.it .u8)),(2,.c (.arr (.int .i64))),(7,.c (.ptr 1 0)),(8,.c (.it .i64)),(11,.c (.it .i64)),(15,.c (.it .i64)),(16,.c (.it .i64))],[.st [.junk,.junk,.junk,.junk] 1 0,.st [.arr (.int .u8),.arr (.int .u8)] 1 0]⟩
 to := fun v => ⟨v.1.1,v.1.2.1,v.1.2.2.2.1,v.1.2.2.2.2.1,v.1.2.2.2.2.2.1,v.1.2.2.2.2.2.2.1,v.2.2.1.1,v.2.2.1.2.1⟩
 fr := fun x => ((x.w,(x.l,((),(x.e,(x.n,(x.way,(x.bs,()))))))),(((),((),((),((),())))),((x.ai,(x.as_,())),())))
noncomputable def s0 (x : p0X) : Option (p0X ⊕ q0X) := bif decide (x.i < (↑x.l.length : Int)) then bif inR x.i x.l.length || !x.bs == 0 then bif inR x.i x.l.length || !(x.bs == 0 && !decide (x.l[x.i.toNat]?.getD 0 < 0)) then some (Sum.inl { w := x.w,l := x.l,e := x.e,n := x.n,way := x.way,bs := bif bif x.bs == 0 then bif decide (x.l[x.i.toNat]?.getD 0 < 0) then true else decide (x.l[x.i.toNat]?.getD 0 ≥ x.n) else false then 1 else x.bs,i := IntKind.i64.wrap (x.i + 1),ai := x.ai,as_ := x.as_ }) else none else none
else some (Sum.inr { w := x.w,l := x.l,e := x.e,n := x.n,way := x.way,bs := x.bs,ai := x.ai,as_ := x.as_ })
theorem s0_eq (x : p0X) : exec E1 267 (C7.bodyAt 0) 1 (p0.R x) (p0.H x) (roundK 0 p0 (.exit 0) q0) = s0 x := by kernel_rfl
noncomputable def l0 : LoopS := mkLoop 0 p0 (.exit 0) q0 s0
theorem tl0 : topL (C7.bodyAt 0) 1 = [] := by kernel_rfl
theorem l0_ok  : LoopOkS Try.prog 267 none 0 (C7.bodyAt 0) l0 := mkLoop_ok mixed (env_ok ty_ok cl_ok _) (by trivial) (fun _ => rfl) (fun _ => rfl) (tl0 ▸ AllL.nil) s0_eq
noncomputable def E0 : Env := ⟨ty,cfOf cl,lpOf [(0,l0)],none⟩
noncomputable def m (x : gX) : Option fY := bif bif bif decide (IntKind.i64.wrap ((↑x.a0.length : Int) + (↑x.a1.length : Int)) > 40) then true else decide (IntKind.i64.wrap ((↑x.b0.length : Int) + (↑x.b1.length : Int)) > 40) then true else decide ((↑x.l.length : Int) > 20) then bindO (M10.m PUnit.unit) fun y => some y
else
 bindO (M28.m { a := x.a0,b := x.a1 }) fun y =>
   bindO (M28.m { a := x.b0,b := x.b1 }) fun y_1 =>
     bindO (M13.m { ai := y.fst,as_ := y.snd.fst,bi := y_1.fst,bs := y_1.snd.fst }) fun y_2 =>
       bindO (M29.m { i := y.fst,s := y.snd.fst }) fun y_3 =>
         bindO
           (bif
               (!bif
                       bif y_3 != y.snd.snd then true
                       else
                         !bif
                               y_2.snd.snd ==
                                 bif
                                     bif (bif y.snd.snd == 0 then y_1.snd.snd else y.snd.snd) == 0 then
                                       bif (↑y.fst.length : Int) != (↑y_1.fst.length : Int) then true else (↑y.snd.fst.length : Int) != (↑y_1.snd.fst.length : Int)
                                     else false then
                                   8
                                 else bif y.snd.snd == 0 then y_1.snd.snd else y.snd.snd then
                             true
                           else
                             bif
                                 (bif
                                       bif (bif y.snd.snd == 0 then y_1.snd.snd else y.snd.snd) == 0 then
                                         bif (↑y.fst.length : Int) != (↑y_1.fst.length : Int) then true else (↑y.snd.fst.length : Int) != (↑y_1.snd.fst.length : Int)
                                       else false then
                                     8
                                   else bif y.snd.snd == 0 then y_1.snd.snd else y.snd.snd) ==
                                   0 then
                               y_2.snd.snd == 9
                             else false then
                     true
                   else bif y_2.snd.snd != 0 then decide (IntKind.i64.wrap ((↑y_2.fst.length : Int) + (↑y_2.snd.fst.length : Int)) > 0) else false) &&
                 (bif
                       bif (bif y.snd.snd == 0 then y_1.snd.snd else y.snd.snd) == 0 then
                         bif (↑y.fst.length : Int) != (↑y_1.fst.length : Int) then true else (↑y.snd.fst.length : Int) != (↑y_1.snd.fst.length : Int)
                       else false then
                     8
                   else bif y.snd.snd == 0 then y_1.snd.snd else y.snd.snd) !=
                   0 then
             M16.m { ai := y.fst,as_ := y.snd.fst,bi := y_1.fst,bs := y_1.snd.fst }
           else some false)
           fun y_4 =>
           bindO
             (bif
                 (!bif
                           bif y_3 != y.snd.snd then true
                           else
                             !bif
                                   y_2.snd.snd ==
                                     bif
                                         bif (bif y.snd.snd == 0 then y_1.snd.snd else y.snd.snd) == 0 then
                                           bif (↑y.fst.length : Int) != (↑y_1.fst.length : Int) then true else (↑y.snd.fst.length : Int) != (↑y_1.snd.fst.length : Int)
                                         else false then
                                       8
                                     else bif y.snd.snd == 0 then y_1.snd.snd else y.snd.snd then
                                 true
                               else
                                 bif
                                     (bif
                                           bif (bif y.snd.snd == 0 then y_1.snd.snd else y.snd.snd) == 0 then
                                             bif (↑y.fst.length : Int) != (↑y_1.fst.length : Int) then true else (↑y.snd.fst.length : Int) != (↑y_1.snd.fst.length : Int)
                                           else false then
                                         8
                                       else bif y.snd.snd == 0 then y_1.snd.snd else y.snd.snd) ==
                                       0 then
                                   y_2.snd.snd == 9
                                 else false then
                         true
                       else bif y_2.snd.snd != 0 then decide (IntKind.i64.wrap ((↑y_2.fst.length : Int) + (↑y_2.snd.fst.length : Int)) > 0) else false) &&
                     (bif
                           bif (bif y.snd.snd == 0 then y_1.snd.snd else y.snd.snd) == 0 then
                             bif (↑y.fst.length : Int) != (↑y_1.fst.length : Int) then true else (↑y.snd.fst.length : Int) != (↑y_1.snd.fst.length : Int)
                           else false then
                         8
                       else bif y.snd.snd == 0 then y_1.snd.snd else y.snd.snd) !=
                       0 &&
                   !y_4 then
               M17.m { ai := y.fst,as_ := y.snd.fst,bi := y_1.fst,bs := y_1.snd.fst }
             else some false)
             fun y_5 =>
             bindO
               (bif
                   (!bif
                             bif y_3 != y.snd.snd then true
                             else
                               !bif
                                     y_2.snd.snd ==
                                       bif
                                           bif (bif y.snd.snd == 0 then y_1.snd.snd else y.snd.snd) == 0 then
                                             bif (↑y.fst.length : Int) != (↑y_1.fst.length : Int) then true else (↑y.snd.fst.length : Int) != (↑y_1.snd.fst.length : Int)
                                           else false then
                                         8
                                       else bif y.snd.snd == 0 then y_1.snd.snd else y.snd.snd then
                                   true
                                 else
                                   bif
                                       (bif
                                             bif (bif y.snd.snd == 0 then y_1.snd.snd else y.snd.snd) == 0 then
                                               bif (↑y.fst.length : Int) != (↑y_1.fst.length : Int) then true else (↑y.snd.fst.length : Int) != (↑y_1.snd.fst.length : Int)
                                             else false then
                                           8
                                         else bif y.snd.snd == 0 then y_1.snd.snd else y.snd.snd) ==
                                         0 then
                                     y_2.snd.snd == 9
                                   else false then
                           true
                         else bif y_2.snd.snd != 0 then decide (IntKind.i64.wrap ((↑y_2.fst.length : Int) + (↑y_2.snd.fst.length : Int)) > 0) else false) &&
                       (bif
                             bif (bif y.snd.snd == 0 then y_1.snd.snd else y.snd.snd) == 0 then
                               bif (↑y.fst.length : Int) != (↑y_1.fst.length : Int) then true else (↑y.snd.fst.length : Int) != (↑y_1.snd.fst.length : Int)
                             else false then
                           8
                         else bif y.snd.snd == 0 then y_1.snd.snd else y.snd.snd) !=
                         0 &&
                     !bif y_4 then true else y_5 then
                 M18.m { ai := y.fst,as_ := y.snd.fst,bi := y_1.fst,bs := y_1.snd.fst }
               else some (Int.ofNat 0))
               fun y_6 =>
               bif
                   bif
                       bif
                           bif y_3 != y.snd.snd then true
                           else
                             !bif
                                   y_2.snd.snd ==
                                     bif
                                         bif (bif y.snd.snd == 0 then y_1.snd.snd else y.snd.snd) == 0 then
                                           bif (↑y.fst.length : Int) != (↑y_1.fst.length : Int) then true else (↑y.snd.fst.length : Int) != (↑y_1.snd.fst.length : Int)
                                         else false then
                                       8
                                     else bif y.snd.snd == 0 then y_1.snd.snd else y.snd.snd then
                                 true
                               else
                                 bif
                                     (bif
                                           bif (bif y.snd.snd == 0 then y_1.snd.snd else y.snd.snd) == 0 then
                                             bif (↑y.fst.length : Int) != (↑y_1.fst.length : Int) then true else (↑y.snd.fst.length : Int) != (↑y_1.snd.fst.length : Int)
                                           else false then
                                         8
                                       else bif y.snd.snd == 0 then y_1.snd.snd else y.snd.snd) ==
                                       0 then
                                   y_2.snd.snd == 9
                                 else false then
                         true
                       else bif y_2.snd.snd != 0 then decide (IntKind.i64.wrap ((↑y_2.fst.length : Int) + (↑y_2.snd.fst.length : Int)) > 0) else false then
                     true
                   else
                     bif
                         (bif
                               bif (bif y.snd.snd == 0 then y_1.snd.snd else y.snd.snd) == 0 then
                                 bif (↑y.fst.length : Int) != (↑y_1.fst.length : Int) then true else (↑y.snd.fst.length : Int) != (↑y_1.snd.fst.length : Int)
                               else false then
                             8
                           else bif y.snd.snd == 0 then y_1.snd.snd else y.snd.snd) !=
                           0 then
                       bif bif y_4 then true else y_5 then true else y_6 != -1
                     else false then
                 some false
               else
                 bindO
                   (iter s0
                     { w := x.w,l := x.l,e := y.snd.snd,n := IntKind.i64.wrap ((↑y.fst.length : Int) + (↑y.snd.fst.length : Int)),
                       way := bif bif y.snd.snd == 0 then decide (x.w > 2) else false then 1 else y.snd.snd,bs := y.snd.snd,i := 0,ai := y.fst,as_ := y.snd.fst })
                   fun y =>
                   bindO (M19.m { i := y.ai,s := y.as_,w := y.w }) fun y_7 =>
                     bindO (M23.m { i := y.ai,s := y.as_,l := y.l }) fun y_8 =>
                       bindO
                         (bif
                             !bif
                                   bif bif y_7.snd.snd != y.way then true else y_8.snd.snd != y.bs then true
                                   else bif y_7.snd.snd != 0 then decide (IntKind.i64.wrap ((↑y_7.fst.length : Int) + (↑y_7.snd.fst.length : Int)) > 0) else false then
                                 true
                               else bif y_8.snd.snd != 0 then decide (IntKind.i64.wrap ((↑y_8.fst.length : Int) + (↑y_8.snd.fst.length : Int)) > 0) else false then
                           M25.m { ai := y.ai,as_ := y.as_,bi := y.ai,bs := y.as_ }
                         else some false)
                         fun y_9 =>
                         bif
                             bif
                                 bif
                                     bif bif y_7.snd.snd != y.way then true else y_8.snd.snd != y.bs then true
                                     else bif y_7.snd.snd != 0 then decide (IntKind.i64.wrap ((↑y_7.fst.length : Int) + (↑y_7.snd.fst.length : Int)) > 0) else false then
                                   true
                                 else bif y_8.snd.snd != 0 then decide (IntKind.i64.wrap ((↑y_8.fst.length : Int) + (↑y_8.snd.fst.length : Int)) > 0) else false then
                               true
                             else !y_9 then
                           some false
                         else
                           bif y.e != 0 then
                             bindO (M30.m { i := y.ai,s := y.as_ }) fun y_10 =>
                               bindO (bif bif y_10.snd == y.e then (↑y_10.fst.length : Int) == 0 else false then M22.m { i := y.ai,s := y.as_ } else some (Int.ofNat 0))
                                 fun y_11 =>
                                 bindO
                                   (bif bif bif y_10.snd == y.e then (↑y_10.fst.length : Int) == 0 else false then y_11 == 0 else false then M26.m { i := y.ai,s := y.as_ }
                                   else some [])
                                   fun y_12 =>
                                   bindO
                                     (bif bif bif bif y_10.snd == y.e then (↑y_10.fst.length : Int) == 0 else false then y_11 == 0 else false then y_12 == [] else false then
                                       M10.m PUnit.unit
                                     else some false)
                                     fun y_13 =>
                                     some
                                       (bif bif bif bif y_10.snd == y.e then (↑y_10.fst.length : Int) == 0 else false then y_11 == 0 else false then y_12 == [] else false then
                                         y_13
                                       else false)
                           else bindO (M10.m PUnit.unit) fun y => some y
theorem m_eq (x : gX) : exec E0 267 C7 0 (initS 0 (g.A x)) (g.H x) (finish 0 ty [.tmp 6] f) = m x := by kernel_rfl
theorem tl : topL C7 0 = [(0,C7.bodyAt 0)] := by kernel_rfl
theorem known : Known Try.prog 7 g f m :=
 mk_known mixed (env_ok ty_ok cl_ok _) s7 rfl rfl tl (AllL.cons rfl l0_ok AllL.nil) (fun _ _ => ⟨rfl,rfl⟩) (fun _ _ => ⟨rfl,rfl⟩) m_eq
end M7
end Go.Proofs.Ytnmlmdlhhphcoaa
