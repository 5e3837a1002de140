/-
  What the proof stands on.
-/
import Derived.Test.YtcnlccpihknehaaDoorMT6QMu
set_option linter.all false
namespace Go.Proofs.YtcnlccpihknehaaDoor
open Go.Abs
set_option maxRecDepth 100000
namespace M81e
structure gX where
 s_lo : Nat
 s_len : Nat
 os : List ((Bool) × Int)
def g : Sg gX where
 vs := [.c (.sl 0 1 2)]
 h := [.arr (.pair .bool (.int .u8)) 1]
 to := fun a b => ⟨a.1.1,a.1.2,b.1⟩
 fa := fun x => ((x.s_lo,x.s_len),())
 fh := fun x => (x.os,())
abbrev fY := Nat × Nat × Nat × (List ((Bool) × Int))
def f : Ft fY where
 ord := none
 sh := .c (.slc 0 1 2)
 h := [.arr (.pair .bool (.int .u8)) 1]
 to := fun a b => (a.1,a.2.1,a.2.2,b.1)
 fv := fun y => (y.1,y.2.1,y.2.2.1)
 fh := fun y => (y.2.2.2,())
def cl : List (FuncId × Con) := []
theorem cl_ok : allCon Tryd.prog cl := trivial
def E0 : Env := ⟨ty,cfOf cl,fun _ => none,none⟩
def m (x : gX) : Option fY := bif decide (0 ≤ (↑x.s_len : Int)) && decide ((↑x.s_len : Int) ≤ (↑x.s_len : Int)) && (decide (0 ≤ (↑x.s_len : Int)) && decide ((↑x.s_len : Int) ≤ (↑(↑x.s_len : Int).toNat : Int))) then some (x.s_lo,(↑x.s_len : Int).toNat,(↑x.s_len : Int).toNat,x.os)
else none
theorem m_eq (x : gX) : exec E0 9 C81 0 (initS 0 (g.A x)) (g.H x) (finish 1 ty [.tmp 2] f) = m x := by kernel_rfl
theorem tl : topL C81 0 = [] := by kernel_rfl
theorem known : Known Tryd.prog 81 g f m :=
 mk_known mixed (env_ok ty_ok cl_ok _) s81 rfl rfl tl AllL.nil (fun _ _ => ⟨rfl,rfl⟩) (fun _ _ => ⟨rfl,rfl⟩) m_eq
def con : Con := conG g [.arg 0 0] f m default
theorem con_ok : ConOk Tryd.prog 81 con := conG_ok known
end M81e
namespace M53e
structure gX where
 s_lo : Nat
 s_len : Nat
 ms : List ((Int) × List ((Bool) × Int))
def g : Sg gX where
 vs := [.c (.sl 0 1 2)]
 h := [.arr (.pair (.int .u8) (.sl (.pair .bool (.int .u8)))) 1]
 to := fun a b => ⟨a.1.1,a.1.2,b.1⟩
 fa := fun x => ((x.s_lo,x.s_len),())
 fh := fun x => (x.ms,())
abbrev fY := Nat × Nat × Nat × (List ((Int) × List ((Bool) × Int)))
def f : Ft fY where
 ord := none
 sh := .c (.slc 0 1 2)
 h := [.arr (.pair (.int .u8) (.sl (.pair .bool (.int .u8)))) 1]
 to := fun a b => (a.1,a.2.1,a.2.2,b.1)
 fv := fun y => (y.1,y.2.1,y.2.2.1)
 fh := fun y => (y.2.2.2,())
def cl : List (FuncId × Con) := []
theorem cl_ok : allCon Tryd.prog cl := trivial
def E0 : Env := ⟨ty,cfOf cl,fun _ => none,none⟩
def m (x : gX) : Option fY := bif decide (0 ≤ (↑x.s_len : Int)) && decide ((↑x.s_len : Int) ≤ (↑x.s_len : Int)) && (decide (0 ≤ (↑x.s_len : Int)) && decide ((↑x.s_len : Int) ≤ (↑(↑x.s_len : Int).toNat : Int))) then some (x.s_lo,(↑x.s_len : Int).toNat,(↑x.s_len : Int).toNat,x.ms)
else none
theorem m_eq (x : gX) : exec E0 9 C53 0 (initS 0 (g.A x)) (g.H x) (finish 1 ty [.tmp 2] f) = m x := by kernel_rfl
theorem tl : topL C53 0 = [] := by kernel_rfl
theorem known : Known Tryd.prog 53 g f m :=
 mk_known mixed (env_ok ty_ok cl_ok _) s53 rfl rfl tl AllL.nil (fun _ _ => ⟨rfl,rfl⟩) (fun _ _ => ⟨rfl,rfl⟩) m_eq
def con : Con := conG g [.arg 0 0] f m default
theorem con_ok : ConOk Tryd.prog 53 con := conG_ok known
end M53e
end Go.Proofs.YtcnlccpihknehaaDoor
namespace Go.Proofs.YtcnlccpihknehaaDoor
open Go.Abs
set_option maxRecDepth 100000
namespace M54
structure gX where
 l : List (List UInt8)
 s : List UInt8
 at_ : Int
def g : Sg gX where
 vs := [.c (.ptr 0 0),.c (.arr .str)]
 h := [.st [.sg,.it .i64] 1 0]
 to := fun a b => ⟨a.2.1,b.1.1,b.1.2.1⟩
 fa := fun x => ((),(x.l,()))
 fh := fun x => ((x.s,(x.at_,())),())
abbrev fY := Int × Bool × List UInt8 × Int
def f : Ft fY where
 ord := none
 sh := .tup [.inl (.it .i64),.inl (.bo)]
 h := [.st [.sg,.it .i64] 1 0]
 to := fun a b => (a.1,a.2.1,b.1.1,b.1.2.1)
 fv := fun y => (y.1,(y.2.1,()))
 fh := fun y => ((y.2.2.1,(y.2.2.2,())),())
def cl : List (FuncId × Con) := []
theorem cl_ok : allCon Tryd.prog cl := trivial
def E2 : Env := ⟨ty,cfOf cl,fun _ => none,none⟩
structure p1X where
 best : Int
 l : List (List UInt8)
 n : Int
 i : Int
 i7 : Int
 w : List UInt8
 j : Int
 s : List UInt8
 at_ : Int
def p1 : Pt p1X where
 own := []
 t := ⟨[(0,.c (.ptr 0 0)),(6,.c (.it .i64)),(14,.c (.arr .str)),(15,.c (.it .i64)),(16,.c (.it .i64)),(7,.c (.it .i64)),(8,.c (.sg)),(9,.c (.it .i64))],[.st [.sg,.it .i64] 1 0]⟩
 to := fun v => ⟨v.1.2.1,v.1.2.2.1,v.1.2.2.2.1,v.1.2.2.2.2.1,v.1.2.2.2.2.2.1,v.1.2.2.2.2.2.2.1,v.1.2.2.2.2.2.2.2.1,v.2.1.1,v.2.1.2.1⟩
 fr := fun x => (((),(x.best,(x.l,(x.n,(x.i,(x.i7,(x.w,(x.j,())))))))),((x.s,(x.at_,())),()))
structure q1X where
 best : Int
 l : List (List UInt8)
 n : Int
 i : Int
 i7 : Int
 w : List UInt8
 j : Int
 s : List UInt8
 at_ : Int
def q1 : Pt q1X where
 own := []
 t := ⟨[(0,.c (.ptr 0 0)),(6,.c (.it .i64)),(14,.c (.arr .str)),(15,.c (.it .i64)),(16,.c (.it .i64)),(7,.c (.it .i64)),(8,.c (.sg)),(9,.c (.it .i64))],[.st [.sg,.it .i64] 1 0]⟩
 to := fun v => ⟨v.1.2.1,v.1.2.2.1,v.1.2.2.2.1,v.1.2.2.2.2.1,v.1.2.2.2.2.2.1,v.1.2.2.2.2.2.2.1,v.1.2.2.2.2.2.2.2.1,v.2.1.1,v.2.1.2.1⟩
 fr := fun x => (((),(x.best,(x.l,(x.n,(x.i,(x.i7,(x.w,(x.j,())))))))),((x.s,(x.at_,())),()))
def s1 (x : p1X) : Option (p1X ⊕ q1X) := bif inR (IntKind.i64.wrap (x.at_ + x.j)) x.s.length || !bif decide (x.j < (↑x.w.length : Int)) then decide (IntKind.i64.wrap (x.at_ + x.j) < (↑x.s.length : Int)) else false then bif inR x.j x.w.length || !bif decide (x.j < (↑x.w.length : Int)) then decide (IntKind.i64.wrap (x.at_ + x.j) < (↑x.s.length : Int)) else false then bif bif bif decide (x.j < (↑x.w.length : Int)) then decide (IntKind.i64.wrap (x.at_ + x.j) < (↑x.s.length : Int)) else false then byteAt x.s (IntKind.i64.wrap (x.at_ + x.j)).toNat == byteAt x.w x.j.toNat else false then some (Sum.inl { best := x.best,l := x.l,n := x.n,i := x.i,i7 := x.i7,w := x.w,j := IntKind.i64.wrap (x.j + 1),s := x.s,at_ := x.at_ }) else some (Sum.inr { best := x.best,l := x.l,n := x.n,i := x.i,i7 := x.i7,w := x.w,j := x.j,s := x.s,at_ := x.at_ }) else none
else none
theorem s1_eq (x : p1X) : exec E2 84 (C54.bodyAt 1) 2 (p1.R x) (p1.H x) (roundK 1 p1 (.exit 2) q1) = s1 x := by kernel_rfl
noncomputable def l1 : LoopS := mkLoop 1 p1 (.exit 2) q1 s1
theorem tl1 : topL (C54.bodyAt 1) 2 = [] := by kernel_rfl
theorem l1_ok  : LoopOkS Tryd.prog 84 none 1 (C54.bodyAt 1) l1 := mkLoop_ok mixed (env_ok ty_ok cl_ok _) (by trivial) (fun _ => rfl) (fun _ => rfl) (tl1 ▸ AllL.nil) s1_eq
noncomputable def E1 : Env := ⟨ty,cfOf cl,lpOf [(1,l1)],none⟩
structure p0X where
 best : Int
 l : List (List UInt8)
 n : Int
 i : Int
 s : List UInt8
 at_ : Int
def p0 : Pt p0X where
 own := []
 t := ⟨[(0,.c (.ptr 0 0)),(6,.c (.it .i64)),(14,.c (.arr .str)),(15,.c (.it .i64)),(16,.c (.it .i64))],[.st [.sg,.it .i64] 1 0]⟩
 to := fun v => ⟨v.1.2.1,v.1.2.2.1,v.1.2.2.2.1,v.1.2.2.2.2.1,v.2.1.1,v.2.1.2.1⟩
 fr := fun x => (((),(x.best,(x.l,(x.n,(x.i,()))))),((x.s,(x.at_,())),()))
structure q0X where
 best : Int
 s : List UInt8
 at_ : Int
def q0 : Pt q0X where
 own := []
 t := ⟨[(0,.c (.ptr 0 0)),(6,.c (.it .i64))],[.st [.sg,.it .i64] 1 0]⟩
 to := fun v => ⟨v.1.2.1,v.2.1.1,v.2.1.2.1⟩
 fr := fun x => (((),(x.best,())),((x.s,(x.at_,())),()))
structure z0X where
 i : Int
 ok : Bool
 s : List UInt8
 at_ : Int
def z0 : Pt z0X where
 own := []
 t := ⟨[(4,.c (.it .i64)),(5,.c (.bo))],[.st [.sg,.it .i64] 1 0]⟩
 to := fun v => ⟨v.1.1,v.1.2.1,v.2.1.1,v.2.1.2.1⟩
 fr := fun x => ((x.i,(x.ok,())),((x.s,(x.at_,())),()))
noncomputable def s0 (x : p0X) : Option (p0X ⊕ (q0X ⊕ z0X)) := bif decide (x.i < x.n) then bif inR x.i x.l.length then bindO (iter s1 { best := x.best,l := x.l,n := x.n,i := x.i,i7 := x.i,w := x.l[x.i.toNat]?.getD [],j := 0,s := x.s,at_ := x.at_ }) fun y => bif y.j == (↑y.w.length : Int) then some (Sum.inr (Sum.inr { i := y.i7,ok := true,s := y.s,at_ := IntKind.i64.wrap (y.at_ + y.j) })) else some (Sum.inl { best := if IntKind.i64.wrap (y.at_ + y.j) > y.best then IntKind.i64.wrap (y.at_ + y.j) else y.best,l := y.l,n := y.n,i := IntKind.i64.wrap (y.i + 1),s := y.s,at_ := y.at_ }) else none
else some (Sum.inr (Sum.inl { best := x.best,s := x.s,at_ := x.at_ }))
theorem s0_eq (x : p0X) : exec E1 84 (C54.bodyAt 0) 1 (p0.R x) (p0.H x) (roundK2 1 p0 (.exit 0) q0 .ret z0) = s0 x := by kernel_rfl
noncomputable def l0 : LoopS := mkLoop2 1 p0 (.exit 0) q0 .ret z0 s0
theorem tl0 : topL (C54.bodyAt 0) 1 = [(1,C54.bodyAt 1)] := by kernel_rfl
theorem l0_ok  : LoopOkS Tryd.prog 84 none 1 (C54.bodyAt 0) l0 := mkLoop2_ok mixed (env_ok ty_ok cl_ok _) (by trivial) (by trivial) (fun _ => rfl) (fun _ => rfl) (fun _ => rfl) (tl0 ▸ (AllL.cons rfl l1_ok AllL.nil)) s0_eq
noncomputable def E0 : Env := ⟨ty,cfOf cl,lpOf [(0,l0),(1,l1)],none⟩
noncomputable def m (x : gX) : Option fY := bindO (iter s0 { best := x.at_,l := x.l,n := (↑x.l.length : Int),i := 0,s := x.s,at_ := x.at_ }) fun s => sumC s (fun y => some (0,false,y.s,y.best)) fun z => some (z.i,z.ok,z.s,z.at_)
theorem m_eq (x : gX) : exec E0 84 C54 0 (initS 0 (g.A x)) (g.H x) (finish 1 ty [.tmp 4,.tmp 5] f) = m x := by kernel_rfl
theorem tl : topL C54 0 = [(0,C54.bodyAt 0)] := by kernel_rfl
theorem known : Known Tryd.prog 54 g f m :=
 mk_known mixed (env_ok ty_ok cl_ok _) s54 rfl rfl tl (AllL.cons rfl l0_ok AllL.nil) (fun _ _ => ⟨rfl,rfl⟩) (fun _ _ => ⟨rfl,rfl⟩) m_eq
noncomputable def con : Con := conG g [.arg 0 0] f m default
theorem con_ok : ConOk Tryd.prog 54 con := conG_ok known
end M54
namespace M52
structure gX where
 s : List UInt8
 at_ : Int
def g : Sg gX where
 vs := [.c (.ptr 0 0)]
 h := [.st [.sg,.it .i64] 1 0]
 to := fun a b => ⟨b.1.1,b.1.2.1⟩
 fa := fun x => ((),())
 fh := fun x => ((x.s,(x.at_,())),())
abbrev fY := Int × (List ((Bool) × Int)) × Int × List UInt8 × Int
def f : Ft fY where
 ord := none
 sh := .tup [.inr [.it .u8,.arr (.pair .bool (.int .u8))],.inl (.it .i64)]
 h := [.st [.sg,.it .i64] 1 0]
 to := fun a b => (a.1.1,a.1.2.1,a.2.1,b.1.1,b.1.2.1)
 fv := fun y => ((y.1,(y.2.1,())),(y.2.2.1,()))
 fh := fun y => ((y.2.2.2.1,(y.2.2.2.2,())),())
noncomputable def cl : List (FuncId × Con) := [(54,M54.con),(81,M81e.con)]
theorem cl_ok : allCon Tryd.prog cl := ⟨M54.con_ok,M81e.con_ok,trivial⟩
noncomputable def E1 : Env := ⟨ty,cfOf cl,fun _ => none,none⟩
structure p0X where
 s : List UInt8
 at_ : Int
 o : Int
 l_lo : Nat
 l_len : Nat
 os : List ((Bool) × Int)
def p0 : Pt p0X where
 own := [.cell 2 1 (.pair .bool (.int .u8))]
 t := ⟨[(0,.c (.ptr 0 0)),(2,.c (.ptr 1 0)),(4,.c (.ptr 2 0))],[.st [.sg,.it .i64] 1 0,.st [.junk,.junk] 1 0,.st [.it .u8,.sl 3 0 2] 1 0,.arr (.pair .bool (.int .u8)) 0]⟩
 to := fun v => ⟨v.2.1.1,v.2.1.2.1,v.2.2.2.1.1,v.2.2.2.1.2.1.1,v.2.2.2.1.2.1.2,v.2.2.2.2.1⟩
 fr := fun x => (((),((),((),()))),((x.s,(x.at_,())),(((),((),())),((x.o,((x.l_lo,x.l_len),())),(x.os,())))))
structure q0X where
 e : Int
 s : List UInt8
 at_ : Int
 o : Int
 l : List ((Bool) × Int)
def q0 : Pt q0X where
 own := []
 t := ⟨[(2,.c (.ptr 1 0)),(3,.c (.it .i64))],[.st [.sg,.it .i64] 1 0,.st [.it .u8,.arr (.pair .bool (.int .u8))] 1 0]⟩
 to := fun v => ⟨v.1.2.1,v.2.1.1,v.2.1.2.1,v.2.2.1.1,v.2.2.1.2.1⟩
 fr := fun x => (((),(x.e,())),((x.s,(x.at_,())),((x.o,(x.l,())),())))
noncomputable def s0 (x : p0X) : Option (p0X ⊕ q0X) := bindO (M54.m { l := [[119,48],[119,49],[114,48],[114,49]],s := x.s,at_ := x.at_ }) fun y => bif !y.snd.fst then bif leB (x.l_lo + x.l_len) x.os.length && true && true then some (Sum.inr { e := 4,s := y.snd.snd.fst,at_ := y.snd.snd.snd,o := x.o,l := List.take x.l_len (List.drop x.l_lo x.os) }) else none else bif (↑x.l_len : Int) == 16 then bif leB (x.l_lo + x.l_len) x.os.length && true && true then some (Sum.inr { e := 3,s := y.snd.snd.fst,at_ := x.at_,o := x.o,l := List.take x.l_len (List.drop x.l_lo x.os) }) else none else bif eqN x.l_lo 0 && eqN x.os.length x.l_len && roomB (x.l_len + 1) 2 then bindO (M54.m { l := [[41],[44]],s := y.snd.snd.fst,at_ := y.snd.snd.snd }) fun y_1 => bif !y_1.snd.fst then bif leB (0 + (x.l_len + 1)) (x.os ++ [(decide (y.fst < 2),IntKind.u8.wrap (y.fst.tmod 2))]).length && true && true then some (Sum.inr { e := 4,s := y_1.snd.snd.fst,at_ := y_1.snd.snd.snd,o := x.o,l := List.take (x.l_len + 1) (List.drop 0 (x.os ++ [(decide (y.fst < 2),IntKind.u8.wrap (y.fst.tmod 2))])) }) else none else bif y_1.fst == 0 then bindO (M81e.m { s_lo := 0,s_len := x.l_len + 1,os := x.os ++ [(decide (y.fst < 2),IntKind.u8.wrap (y.fst.tmod 2))] }) fun y => bif leB (y.fst + y.snd.fst) y.snd.snd.snd.length && true && true then some (Sum.inr { e := 0,s := y_1.snd.snd.fst,at_ := y_1.snd.snd.snd,o := x.o,l := List.take y.snd.fst (List.drop y.fst y.snd.snd.snd) }) else none else some (Sum.inl { s := y_1.snd.snd.fst,at_ := y_1.snd.snd.snd,o := x.o,l_lo := 0,l_len := x.l_len + 1,os := x.os ++ [(decide (y.fst < 2),IntKind.u8.wrap (y.fst.tmod 2))] }) else none
theorem s0_eq (x : p0X) : exec E1 72 (C52.bodyAt 0) 1 (p0.R x) (p0.H x) (roundK 1 p0 .ret q0) = s0 x := by kernel_rfl
noncomputable def l0 : LoopS := mkLoop 1 p0 .ret q0 s0
theorem tl0 : topL (C52.bodyAt 0) 1 = [] := by kernel_rfl
theorem l0_ok  : LoopOkS Tryd.prog 72 none 1 (C52.bodyAt 0) l0 := mkLoop_ok mixed (env_ok ty_ok cl_ok _) (by trivial) (fun _ => rfl) (fun _ => rfl) (tl0 ▸ AllL.nil) s0_eq
noncomputable def E0 : Env := ⟨ty,cfOf cl,lpOf [(0,l0)],none⟩
noncomputable def m (x : gX) : Option fY := bindO (M54.m { l := [[97,110,121,40],[117,112,40],[100,111,119,110,40]],s := x.s,at_ := x.at_ }) fun y => bif !y.snd.fst then some (0,[],4,y.snd.snd.fst,y.snd.snd.snd) else bindO (iter s0 { s := y.snd.snd.fst,at_ := y.snd.snd.snd,o := IntKind.u8.wrap y.fst,l_lo := 0,l_len := 0,os := [] }) fun y => some (y.o,y.l,y.e,y.s,y.at_)
theorem m_eq (x : gX) : exec E0 72 C52 0 (initS 0 (g.A x)) (g.H x) (finish 1 ty [.cell 2 46,.tmp 3] f) = m x := by kernel_rfl
theorem tl : topL C52 0 = [(0,C52.bodyAt 0)] := by kernel_rfl
theorem known : Known Tryd.prog 52 g f m :=
 mk_known mixed (env_ok ty_ok cl_ok _) s52 rfl rfl tl (AllL.cons rfl l0_ok AllL.nil) (fun _ _ => ⟨rfl,rfl⟩) (fun _ _ => ⟨rfl,rfl⟩) m_eq
noncomputable def con : Con := conG g [.arg 0 0] f m default
theorem con_ok : ConOk Tryd.prog 52 con := conG_ok known
end M52
namespace M27
structure gX where
 s : List UInt8
def g : Sg gX where
 vs := [.c (.sg)]
 h := []
 to := fun a b => ⟨a.1⟩
 fa := fun x => (x.s,())
 fh := fun x => ()
abbrev fY := (List ((Int) × List ((Bool) × Int))) × Int × Int
def f : Ft fY where
 ord := none
 sh := .tup [.inl (.arr (.pair (.int .u8) (.sl (.pair .bool (.int .u8))))),.inl (.it .i64),.inl (.it .i64)]
 h := []
 to := fun a b => (a.1,a.2.1,a.2.2.1)
 fv := fun y => (y.1,(y.2.1,(y.2.2,())))
 fh := fun y => ()
noncomputable def cl : List (FuncId × Con) := [(52,M52.con),(53,M53e.con),(54,M54.con)]
theorem cl_ok : allCon Tryd.prog cl := ⟨M52.con_ok,M53e.con_ok,M54.con_ok,trivial⟩
noncomputable def E1 : Env := ⟨ty,cfOf cl,fun _ => none,none⟩
structure p0X where
 s : List UInt8
 m_lo : Nat
 m_len : Nat
 s2 : List UInt8
 at_ : Int
 ms : List ((Int) × List ((Bool) × Int))
def p0 : Pt p0X where
 own := [.reg 6 (.pair (.int .u8) (.sl (.pair .bool (.int .u8))))]
 t := ⟨[(0,.c (.sg)),(5,.c (.ptr 0 0)),(6,.c (.sl 1 0 2))],[.st [.sg,.it .i64] 1 0,.arr (.pair (.int .u8) (.sl (.pair .bool (.int .u8)))) 0]⟩
 to := fun v => ⟨v.1.1,v.1.2.2.1.1,v.1.2.2.1.2,v.2.1.1,v.2.1.2.1,v.2.2.1⟩
 fr := fun x => ((x.s,((),((x.m_lo,x.m_len),()))),((x.s2,(x.at_,())),(x.ms,())))
structure q0X where
 m : List ((Int) × List ((Bool) × Int))
 at_ : Int
 e : Int
def q0 : Pt q0X where
 own := []
 t := ⟨[(2,.c (.arr (.pair (.int .u8) (.sl (.pair .bool (.int .u8)))))),(3,.c (.it .i64)),(4,.c (.it .i64))],[]⟩
 to := fun v => ⟨v.1.1,v.1.2.1,v.1.2.2.1⟩
 fr := fun x => ((x.m,(x.at_,(x.e,()))),())
noncomputable def s0 (x : p0X) : Option (p0X ⊕ q0X) := bindO (M52.m { s := x.s2,at_ := x.at_ }) fun y => bif bif y.snd.snd.fst == 0 then (↑x.m_len : Int) == 32 else false then some (Sum.inr { m := [],at_ := x.at_,e := 3 }) else bif y.snd.snd.fst != 0 then some (Sum.inr { m := [],at_ := y.snd.snd.snd.snd,e := y.snd.snd.fst }) else bif eqN x.m_lo 0 && eqN x.ms.length x.m_len && roomB (x.m_len + 1) 32 then bif y.snd.snd.snd.snd == (↑x.s.length : Int) then bindO (M53e.m { s_lo := 0,s_len := x.m_len + 1,ms := x.ms ++ [(y.fst,y.snd.fst)] }) fun y => bif leB (y.fst + y.snd.fst) y.snd.snd.snd.length && true && true then some (Sum.inr { m := List.take y.snd.fst (List.drop y.fst y.snd.snd.snd),at_ := 0,e := 0 }) else none else bindO (M54.m { l := [[59,32]],s := y.snd.snd.snd.fst,at_ := y.snd.snd.snd.snd }) fun y_1 => bif !y_1.snd.fst then some (Sum.inr { m := [],at_ := y_1.snd.snd.snd,e := 4 }) else some (Sum.inl { s := x.s,m_lo := 0,m_len := x.m_len + 1,s2 := y_1.snd.snd.fst,at_ := y_1.snd.snd.snd,ms := x.ms ++ [(y.fst,y.snd.fst)] }) else none
theorem s0_eq (x : p0X) : exec E1 70 (C27.bodyAt 0) 1 (p0.R x) (p0.H x) (roundK 0 p0 .ret q0) = s0 x := by kernel_rfl
noncomputable def l0 : LoopS := mkLoop 0 p0 .ret q0 s0
theorem tl0 : topL (C27.bodyAt 0) 1 = [] := by kernel_rfl
theorem l0_ok  : LoopOkS Tryd.prog 70 none 0 (C27.bodyAt 0) l0 := mkLoop_ok mixed (env_ok ty_ok cl_ok _) (by trivial) (fun _ => rfl) (fun _ => rfl) (tl0 ▸ AllL.nil) s0_eq
noncomputable def E0 : Env := ⟨ty,cfOf cl,lpOf [(0,l0)],none⟩
noncomputable def m (x : gX) : Option fY := bif decide ((↑x.s.length : Int) > 4096) then some ([],0,3) else bindO (iter s0 { s := x.s,m_lo := 0,m_len := 0,s2 := x.s,at_ := 0,ms := [] }) fun y => some (y.m,y.at_,y.e)
theorem m_eq (x : gX) : exec E0 70 C27 0 (initS 0 (g.A x)) (g.H x) (finish 0 ty [.tmp 2,.tmp 3,.tmp 4] f) = m x := by kernel_rfl
theorem tl : topL C27 0 = [(0,C27.bodyAt 0)] := by kernel_rfl
theorem known : Known Tryd.prog 27 g f m :=
 mk_known mixed (env_ok ty_ok cl_ok _) s27 rfl rfl tl (AllL.cons rfl l0_ok AllL.nil) (fun _ _ => ⟨rfl,rfl⟩) (fun _ _ => ⟨rfl,rfl⟩) m_eq
noncomputable def con : Con := conT g f m default
theorem con_ok : ConOk Tryd.prog 27 con := conT_ok known (fun _ => rfl) rfl
end M27
end Go.Proofs.YtcnlccpihknehaaDoor
namespace Go.Proofs.YtcnlccpihknehaaDoor
open Go.Abs
set_option maxRecDepth 100000
namespace M22
structure gX where
 s : List UInt8
def g : Sg gX where
 vs := [.c (.sg)]
 h := []
 to := fun a b => ⟨a.1⟩
 fa := fun x => (x.s,())
 fh := fun x => ()
abbrev fY := (List ((Int) × List ((Bool) × Int))) × Bool
def f : Ft fY where
 ord := none
 sh := .tup [.inl (.arr (.pair (.int .u8) (.sl (.pair .bool (.int .u8))))),.inl (.bo)]
 h := []
 to := fun a b => (a.1,a.2.1)
 fv := fun y => (y.1,(y.2,()))
 fh := fun y => ()
noncomputable def cl : List (FuncId × Con) := [(27,M27.con)]
theorem cl_ok : allCon Tryd.prog cl := ⟨M27.con_ok,trivial⟩
noncomputable def E1 : Env := ⟨ty,cfOf cl,fun _ => none,none⟩
structure p0X where
 s : List UInt8
 a0 : List UInt8
 a1 : List UInt8
 a2 : List UInt8
 a3 : List UInt8
 a4 : List UInt8
 a5 : List UInt8
 a6 : List UInt8
 a7 : List UInt8
 a8 : List UInt8
 a9 : List UInt8
 a10 : List UInt8
 a11 : List UInt8
 a12 : List UInt8
 a13 : List UInt8
 i : Int
def p0 : Pt p0X where
 own := []
 t := ⟨[(0,.c (.sg)),(9,.agg [.sg,.sg,.sg,.sg,.sg,.sg,.sg,.sg,.sg,.sg,.sg,.sg,.sg,.sg]),(10,.c (.it .i64))],[]⟩
 to := fun v => ⟨v.1.1,v.1.2.1.1,v.1.2.1.2.1,v.1.2.1.2.2.1,v.1.2.1.2.2.2.1,v.1.2.1.2.2.2.2.1,v.1.2.1.2.2.2.2.2.1,v.1.2.1.2.2.2.2.2.2.1,v.1.2.1.2.2.2.2.2.2.2.1,v.1.2.1.2.2.2.2.2.2.2.2.1,v.1.2.1.2.2.2.2.2.2.2.2.2.1,v.1.2.1.2.2.2.2.2.2.2.2.2.2.1,v.1.2.1.2.2.2.2.2.2.2.2.2.2.2.1,v.1.2.1.2.2.2.2.2.2.2.2.2.2.2.2.1,v.1.2.1.2.2.2.2.2.2.2.2.2.2.2.2.2.1,v.1.2.2.1⟩
 fr := fun x => ((x.s,((x.a0,(x.a1,(x.a2,(x.a3,(x.a4,(x.a5,(x.a6,(x.a7,(x.a8,(x.a9,(x.a10,(x.a11,(x.a12,(x.a13,())))))))))))))),(x.i,()))),())
abbrev q0X := Unit
def q0 : Pt q0X where
 own := []
 t := ⟨[],[]⟩
 to := fun v => ()
 fr := fun x => ((),())
structure z0X where
 m : List ((Int) × List ((Bool) × Int))
 ok : Bool
def z0 : Pt z0X where
 own := []
 t := ⟨[(2,.c (.arr (.pair (.int .u8) (.sl (.pair .bool (.int .u8)))))),(3,.c (.bo))],[]⟩
 to := fun v => ⟨v.1.1,v.1.2.1⟩
 fr := fun x => ((x.m,(x.ok,())),())
noncomputable def s0 (x : p0X) : Option (p0X ⊕ (q0X ⊕ z0X)) := bif decide (x.i < 7) then bif inR x.i 7 then bif ([(x.a0,x.a1),(x.a2,x.a3),(x.a4,x.a5),(x.a6,x.a7),(x.a8,x.a9),(x.a10,x.a11),(x.a12,x.a13)][x.i.toNat]?.getD ([],[])).fst == x.s then bindO (M27.m { s := ([(x.a0,x.a1),(x.a2,x.a3),(x.a4,x.a5),(x.a6,x.a7),(x.a8,x.a9),(x.a10,x.a11),(x.a12,x.a13)][x.i.toNat]?.getD ([],[])).snd }) fun y => some (Sum.inr (Sum.inr { m := y.fst,ok := true })) else some (Sum.inl { s := x.s,a0 := x.a0,a1 := x.a1,a2 := x.a2,a3 := x.a3,a4 := x.a4,a5 := x.a5,a6 := x.a6,a7 := x.a7,a8 := x.a8,a9 := x.a9,a10 := x.a10,a11 := x.a11,a12 := x.a12,a13 := x.a13,i := IntKind.i64.wrap (x.i + 1) }) else none
else some (Sum.inr (Sum.inl PUnit.unit))
theorem s0_eq (x : p0X) : exec E1 26 (C22.bodyAt 0) 1 (p0.R x) (p0.H x) (roundK2 0 p0 (.exit 0) q0 .ret z0) = s0 x := by kernel_rfl
noncomputable def l0 : LoopS := mkLoop2 0 p0 (.exit 0) q0 .ret z0 s0
theorem tl0 : topL (C22.bodyAt 0) 1 = [] := by kernel_rfl
theorem l0_ok  : LoopOkS Tryd.prog 26 none 0 (C22.bodyAt 0) l0 := mkLoop2_ok mixed (env_ok ty_ok cl_ok _) (by trivial) (by trivial) (fun _ => rfl) (fun _ => rfl) (fun _ => rfl) (tl0 ▸ AllL.nil) s0_eq
noncomputable def E0 : Env := ⟨ty,cfOf cl,lpOf [(0,l0)],none⟩
noncomputable def m (x : gX) : Option fY := bindO (iter s0 { s := x.s,a0 := [77,65,84,83,43],a1 := [97,110,121,40,119,48,41,59,32,117,112,40,114,48,44,119,49,41,59,32,100,111,119,110,40,114,49,44,119,48,41],a2 := [77,65,84,83,43,43],a3 := [97,110,121,40,119,48,41,59,32,117,112,40,114,48,44,119,49,41,59,32,100,111,119,110,40,114,49,44,119,48,44,114,48,41],a4 := [77,97,114,99,104,32,88],a5 := [97,110,121,40,119,48,41,59,32,117,112,40,114,48,44,119,49,41,59,32,100,111,119,110,40,114,49,44,119,48,41,59,32,97,110,121,40,114,48,41],a6 := [77,97,114,99,104,32,89],a7 := [97,110,121,40,119,48,41,59,32,117,112,40,114,48,44,119,49,44,114,49,41,59,32,100,111,119,110,40,114,49,44,119,48,44,114,48,41,59,32,97,110,121,40,114,48,41],a8 := [77,97,114,99,104,32,67,45],a9 := [97,110,121,40,119,48,41,59,32,117,112,40,114,48,44,119,49,41,59,32,117,112,40,114,49,44,119,48,41,59,32,100,111,119,110,40,114,48,44,119,49,41,59,32,100,111,119,110,40,114,49,44,119,48,41,59,32,97,110,121,40,114,48,41],a10 := [77,97,114,99,104,32,65],a11 := [97,110,121,40,119,48,41,59,32,117,112,40,114,48,44,119,49,44,119,48,44,119,49,41,59,32,117,112,40,114,49,44,119,48,44,119,49,41,59,32,100,111,119,110,40,114,49,44,119,48,44,119,49,44,119,48,41,59,32,100,111,119,110,40,114,48,44,119,49,44,119,48,41],a12 := [77,97,114,99,104,32,66],a13 := [97,110,121,40,119,48,41,59,32,117,112,40,114,48,44,119,49,44,114,49,44,119,48,44,114,48,44,119,49,41,59,32,117,112,40,114,49,44,119,48,44,119,49,41,59,32,100,111,119,110,40,114,49,44,119,48,44,119,49,44,119,48,41,59,32,100,111,119,110,40,114,48,44,119,49,44,119,48,41],i := 0 }) fun s => sumC s (fun y => some ([],false)) fun z => some (z.m,z.ok)
theorem m_eq (x : gX) : exec E0 26 C22 0 (initS 0 (g.A x)) (g.H x) (finish 0 ty [.tmp 2,.tmp 3] f) = m x := by kernel_rfl
theorem tl : topL C22 0 = [(0,C22.bodyAt 0)] := by kernel_rfl
theorem known : Known Tryd.prog 22 g f m :=
 mk_known mixed (env_ok ty_ok cl_ok _) s22 rfl rfl tl (AllL.cons rfl l0_ok AllL.nil) (fun _ _ => ⟨rfl,rfl⟩) (fun _ _ => ⟨rfl,rfl⟩) m_eq
noncomputable def con : Con := conT g f m default
theorem con_ok : ConOk Tryd.prog 22 con := conT_ok known (fun _ => rfl) rfl
end M22
end Go.Proofs.YtcnlccpihknehaaDoor
