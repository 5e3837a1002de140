/-
  What the proof stands on.
-/
import Derived.Test.YtnmlmdlhhphcoaaER6QE9
import Derived.Test.YtnmlmdlhhphcoaaER6QEx
import Derived.Test.YtnmlmdlhhphcoaaER6QEk
set_option linter.all false
namespace Go.Proofs.Ytnmlmdlhhphcoaa
open Go.Abs
set_option maxRecDepth 100000
end Go.Proofs.Ytnmlmdlhhphcoaa
namespace Go.Proofs.Ytnmlmdlhhphcoaa
open Go.Abs
set_option maxRecDepth 100000
namespace M10
abbrev gX := Unit
def g : Sg gX where
 vs := []
 h := []
 to := fun a b => ()
 fa := fun x => ()
 fh := fun x => ()
abbrev fY := Bool
def f : Ft fY where
 ord := none
 sh := .c (.bo)
 h := []
 to := fun a b => (a)
 fv := fun y => y
 fh := fun y => ()
noncomputable def cl : List (FuncId × Con) := [(31,M31.con),(13,M13.con),(19,M19.con),(30,M30.con),(23,M23.con),(17,M17.con),(18,M18.con),(27,M27.con),(26,M26.con)]
theorem cl_ok : allCon Try.prog cl := ⟨M31.con_ok,M13.con_ok,M19.con_ok,M30.con_ok,M23.con_ok,M17.con_ok,M18.con_ok,M27.con_ok,M26.con_ok,trivial⟩
noncomputable def E0 : Env := ⟨ty,cfOf cl,fun _ => none,none⟩
noncomputable def m (x : gX) : Option fY := bindO (M31.m { s := [48,88,88,124,49] }) fun y => bindO (M31.m { s := [48,88,49,124,88] }) fun y_1 => bindO (M13.m { ai := y.fst,as_ := y.snd,bi := y_1.fst,bs := y_1.snd }) fun y => bindO (M31.m { s := [48,88,124] }) fun y_2 => bindO (M31.m { s := [49,88,124] }) fun y_3 => bindO (M13.m { ai := y_2.fst,as_ := y_2.snd,bi := y_3.fst,bs := y_3.snd }) fun y_4 => bindO (M31.m { s := [88,88,49,88,124,48,88] }) fun y_5 => bindO (M19.m { i := y_5.fst,s := y_5.snd,w := 2 }) fun y_6 => bindO (M31.m { s := [88,88,49,88,124,48,88] }) fun y_7 => bindO (M19.m { i := y_7.fst,s := y_7.snd,w := 1 }) fun y_8 => bindO (M31.m { s := [88,48,124,88] }) fun y_9 => bindO (M30.m { i := y_9.fst,s := y_9.snd }) fun y_10 => bindO (bif !y.snd.snd != 0 then M26.m { i := y.fst,s := y.snd.fst } else some []) fun y_11 => bindO (bif !bif bif y.snd.snd != 0 then true else !y_11 == [48,88,49,124,49] then true else y_4.snd.snd != 9 then M31.m { s := [48,49,88,124,49] } else some ([],[])) fun y_12 => bindO (bif !bif bif y.snd.snd != 0 then true else !y_11 == [48,88,49,124,49] then true else y_4.snd.snd != 9 then M31.m { s := [49,48,88,124,88] } else some ([],[])) fun y_13 => bindO (bif !bif bif y.snd.snd != 0 then true else !y_11 == [48,88,49,124,49] then true else y_4.snd.snd != 9 then M18.m { ai := y_12.fst,as_ := y_12.snd,bi := y_13.fst,bs := y_13.snd } else some (Int.ofNat 0)) fun y_14 => bindO (bif !bif bif bif bif y.snd.snd != 0 then true else !y_11 == [48,88,49,124,49] then true else y_4.snd.snd != 9 then true else y_14 != 2 then true else y_6.snd.snd != 0 then M26.m { i := y_6.fst,s := y_6.snd.fst } else some []) fun y_15 => bindO (bif !bif bif bif bif bif bif y.snd.snd != 0 then true else !y_11 == [48,88,49,124,49] then true else y_4.snd.snd != 9 then true else y_14 != 2 then true else y_6.snd.snd != 0 then true else !y_15 == [49,49,49,49,124,48,48] then true else y_8.snd.snd != 0 then M26.m { i := y_8.fst,s := y_8.snd.fst } else some []) fun y_16 => bif inR 1 y_10.fst.length || !!bif bif bif bif bif bif bif bif bif y.snd.snd != 0 then true else !y_11 == [48,88,49,124,49] then true else y_4.snd.snd != 9 then true else y_14 != 2 then true else y_6.snd.snd != 0 then true else !y_15 == [49,49,49,49,124,48,48] then true else y_8.snd.snd != 0 then true else !y_16 == [49,49,49,49,124,48,49] then true else y_10.snd != 0 then true else (↑y_10.fst.length : Int) != 4 then bindO (bif !bif bif bif bif bif bif bif bif bif y.snd.snd != 0 then true else !y_11 == [48,88,49,124,49] then true else y_4.snd.snd != 9 then true else y_14 != 2 then true else y_6.snd.snd != 0 then true else !y_15 == [49,49,49,49,124,48,48] then true else y_8.snd.snd != 0 then true else !y_16 == [49,49,49,49,124,48,49] then true else y_10.snd != 0 then true else (↑y_10.fst.length : Int) != 4 then M26.m { i := (y_10.fst[1]?.getD ([],[])).fst,s := (y_10.fst[1]?.getD ([],[])).snd } else some []) fun y_17 => bif inR 2 y_10.fst.length || !!bif bif bif bif bif bif bif bif bif bif y.snd.snd != 0 then true else !y_11 == [48,88,49,124,49] then true else y_4.snd.snd != 9 then true else y_14 != 2 then true else y_6.snd.snd != 0 then true else !y_15 == [49,49,49,49,124,48,48] then true else y_8.snd.snd != 0 then true else !y_16 == [49,49,49,49,124,48,49] then true else y_10.snd != 0 then true else (↑y_10.fst.length : Int) != 4 then true else !y_17 == [48,48,124,49] then bindO (bif !bif bif bif bif bif bif bif bif bif bif y.snd.snd != 0 then true else !y_11 == [48,88,49,124,49] then true else y_4.snd.snd != 9 then true else y_14 != 2 then true else y_6.snd.snd != 0 then true else !y_15 == [49,49,49,49,124,48,48] then true else y_8.snd.snd != 0 then true else !y_16 == [49,49,49,49,124,48,49] then true else y_10.snd != 0 then true else (↑y_10.fst.length : Int) != 4 then true else !y_17 == [48,48,124,49] then M26.m { i := (y_10.fst[2]?.getD ([],[])).fst,s := (y_10.fst[2]?.getD ([],[])).snd } else some []) fun y_18 => bif bif bif bif bif bif bif bif bif bif bif bif y.snd.snd != 0 then true else !y_11 == [48,88,49,124,49] then true else y_4.snd.snd != 9 then true else y_14 != 2 then true else y_6.snd.snd != 0 then true else !y_15 == [49,49,49,49,124,48,48] then true else y_8.snd.snd != 0 then true else !y_16 == [49,49,49,49,124,48,49] then true else y_10.snd != 0 then true else (↑y_10.fst.length : Int) != 4 then true else !y_17 == [48,48,124,49] then true else !y_18 == [49,48,124,48] then some false else bindO (M31.m { s := [48,49,49,124,48] }) fun y => bindO (M23.m { i := y.fst,s := y.snd,l := [0,3] }) fun y => bindO (M27.m { s := [48,49] }) fun y_19 => bindO (M27.m { s := [48,124,50] }) fun y_20 => bindO (M27.m { s := [124] }) fun y_21 => bindO (M31.m { s := [88,49,124] }) fun y_22 => bindO (M31.m { s := [48,49,124] }) fun y_23 => bindO (M17.m { ai := y_22.fst,as_ := y_22.snd,bi := y_23.fst,bs := y_23.snd }) fun y_24 => bindO (bif y_24 then M31.m { s := [48,49,124] } else some ([],[])) fun y_25 => bindO (bif y_24 then M31.m { s := [88,49,124] } else some ([],[])) fun y_26 => bindO (bif y_24 then M17.m { ai := y_25.fst,as_ := y_25.snd,bi := y_26.fst,bs := y_26.snd } else some false) fun y_27 => bindO (bif bif bif y_24 then !y_27 else false then y.snd.snd == 0 else false then M26.m { i := y.fst,s := y.snd.fst } else some []) fun y_28 => some (bif bif bif bif bif bif bif y_24 then !y_27 else false then y.snd.snd == 0 else false then y_28 == [88,49,49,124,88] else false then y_19.snd.snd == 4 else false then y_20.snd.snd == 4 else false then y_21.snd.snd == 0 else false then IntKind.i64.wrap ((↑y_21.fst.length : Int) + (↑y_21.snd.fst.length : Int)) == 0 else false) else none else none
theorem m_eq (x : gX) : exec E0 162 C10 0 (initS 0 (g.A x)) (g.H x) (finish 0 ty [.tmp 0] f) = m x := by kernel_rfl
theorem tl : topL C10 0 = [] := by kernel_rfl
theorem known : Known Try.prog 10 g f m :=
 mk_known mixed (env_ok ty_ok cl_ok _) s10 rfl rfl tl AllL.nil (fun _ _ => ⟨rfl,rfl⟩) (fun _ _ => ⟨rfl,rfl⟩) m_eq
noncomputable def con : Con := conT g f m default
theorem con_ok : ConOk Try.prog 10 con := conT_ok known (fun _ => rfl) rfl
end M10
end Go.Proofs.Ytnmlmdlhhphcoaa
namespace Go.Proofs.Ytnmlmdlhhphcoaa
open Go.Abs
set_option maxRecDepth 100000
end Go.Proofs.Ytnmlmdlhhphcoaa
namespace Go.Proofs.Ytnmlmdlhhphcoaa
open Go.Abs
set_option maxRecDepth 100000
namespace M6
structure gX where
 xi : List (Int)
 xs : List (Int)
 s : List UInt8
def g : Sg gX where
 vs := [.agg [.arr (.int .u8),.arr (.int .u8)],.c (.sg)]
 h := []
 to := fun a b => ⟨a.1.1,a.1.2.1,a.2.1⟩
 fa := fun x => ((x.xi,(x.xs,())),(x.s,()))
 fh := fun x => ()
abbrev fY := Bool
def f : Ft fY where
 ord := none
 sh := .c (.bo)
 h := []
 to := fun a b => (a)
 fv := fun y => y
 fh := fun y => ()
noncomputable def cl : List (FuncId × Con) := [(9,M9.con),(10,M10.con),(11,M11.con),(26,M26.con),(27,M27.con),(25,M25.con)]
theorem cl_ok : allCon Try.prog cl := ⟨M9.con_ok,M10.con_ok,M11.con_ok,M26.con_ok,M27.con_ok,M25.con_ok,trivial⟩
noncomputable def E2 : Env := ⟨ty,cfOf cl,fun _ => none,none⟩
structure p1X where
 s : List UInt8
 bars : Int
 good : Bool
 i : Int
def p1 : Pt p1X where
 own := []
 t := ⟨[(1,.c (.sg)),(10,.c (.it .i64)),(11,.c (.bo)),(12,.c (.it .i64))],[]⟩
 to := fun v => ⟨v.1.1,v.1.2.1,v.1.2.2.1,v.1.2.2.2.1⟩
 fr := fun x => ((x.s,(x.bars,(x.good,(x.i,())))),())
structure q1X where
 s : List UInt8
 bars : Int
 good : Bool
def q1 : Pt q1X where
 own := []
 t := ⟨[(1,.c (.sg)),(10,.c (.it .i64)),(11,.c (.bo))],[]⟩
 to := fun v => ⟨v.1.1,v.1.2.1,v.1.2.2.1⟩
 fr := fun x => ((x.s,(x.bars,(x.good,()))),())
noncomputable def s1 (x : p1X) : Option (p1X ⊕ q1X) := bif decide (x.i < (↑x.s.length : Int)) then bif inR x.i x.s.length then bif bif (inR x.i x.s.length || !x.good) && ((inR x.i x.s.length || !(x.good && !byteAt x.s x.i.toNat == 48)) && ((inR x.i x.s.length || !(x.good && !bif byteAt x.s x.i.toNat == 48 then true else byteAt x.s x.i.toNat == 49)) && true)) then true else byteAt x.s x.i.toNat == 124 then some (Sum.inl { s := x.s,bars := bif byteAt x.s x.i.toNat == 124 then IntKind.i64.wrap (x.bars + 1) else x.bars,good := bif byteAt x.s x.i.toNat == 124 then x.good else bif x.good then bif bif byteAt x.s x.i.toNat == 48 then true else byteAt x.s x.i.toNat == 49 then true else byteAt x.s x.i.toNat == 88 else false,i := IntKind.i64.wrap (x.i + 1) }) else none else none
else some (Sum.inr { s := x.s,bars := x.bars,good := x.good })
theorem s1_eq (x : p1X) : exec E2 148 (C6.bodyAt 1) 2 (p1.R x) (p1.H x) (roundK 0 p1 (.exit 2) q1) = s1 x := by kernel_rfl
noncomputable def l1 : LoopS := mkLoop 0 p1 (.exit 2) q1 s1
theorem tl1 : topL (C6.bodyAt 1) 2 = [] := by kernel_rfl
theorem l1_ok  : LoopOkS Try.prog 148 none 0 (C6.bodyAt 1) l1 := mkLoop_ok mixed (env_ok ty_ok cl_ok _) (by trivial) (fun _ => rfl) (fun _ => rfl) (tl1 ▸ AllL.nil) s1_eq
noncomputable def E1 : Env := ⟨ty,cfOf cl,lpOf [(1,l1)],none⟩
structure p0X where
 s : List UInt8
 t : List UInt8
 i : Int
 xi : List (Int)
 xs : List (Int)
 ai : List (Int)
 as_ : List (Int)
def p0 : Pt p0X where
 own := []
 t := ⟨[(1,.c (.sg)),(2,.c (.ptr 0 0)),(5,.c (.ptr 1 0)),(6,.c (.sg)),(9,.c (.it .i64))],[.st [.arr (.int .u8),.arr (.int .u8)] 1 0,.st [.arr (.int .u8),.arr (.int .u8)] 1 0]⟩
 to := fun v => ⟨v.1.1,v.1.2.2.2.1,v.1.2.2.2.2.1,v.2.1.1,v.2.1.2.1,v.2.2.1.1,v.2.2.1.2.1⟩
 fr := fun x => ((x.s,((),((),(x.t,(x.i,()))))),((x.xi,(x.xs,())),((x.ai,(x.as_,())),())))
structure q0X where
 s : List UInt8
def q0 : Pt q0X where
 own := []
 t := ⟨[(1,.c (.sg))],[]⟩
 to := fun v => ⟨v.1.1⟩
 fr := fun x => ((x.s,()),())
structure z0X where
 r : Bool
def z0 : Pt z0X where
 own := []
 t := ⟨[(4,.c (.bo))],[]⟩
 to := fun v => ⟨v.1.1⟩
 fr := fun x => ((x.r,()),())
noncomputable def s0 (x : p0X) : Option (p0X ⊕ (q0X ⊕ z0X)) := bif decide (x.i < (↑x.xi.length : Int)) then bif inR x.i x.t.length then bif inR x.i x.ai.length then bif inR (x.ai[x.i.toNat]?.getD 0) 3 then bif byteAt x.t x.i.toNat != byteAt [48,49,88] (Int.toNat (x.ai[x.i.toNat]?.getD 0)) then some (Sum.inr (Sum.inr { r := false })) else some (Sum.inl { s := x.s,t := x.t,i := IntKind.i64.wrap (x.i + 1),xi := x.xi,xs := x.xs,ai := x.ai,as_ := x.as_ }) else none else none else none
else some (Sum.inr (Sum.inl { s := x.s }))
theorem s0_eq (x : p0X) : exec E1 148 (C6.bodyAt 0) 1 (p0.R x) (p0.H x) (roundK2 0 p0 (.exit 0) q0 .ret z0) = s0 x := by kernel_rfl
noncomputable def l0 : LoopS := mkLoop2 0 p0 (.exit 0) q0 .ret z0 s0
theorem tl0 : topL (C6.bodyAt 0) 1 = [] := by kernel_rfl
theorem l0_ok  : LoopOkS Try.prog 148 none 0 (C6.bodyAt 0) l0 := mkLoop2_ok mixed (env_ok ty_ok cl_ok _) (by trivial) (by trivial) (fun _ => rfl) (fun _ => rfl) (fun _ => rfl) (tl0 ▸ AllL.nil) s0_eq
noncomputable def E0 : Env := ⟨ty,cfOf cl,lpOf [(0,l0),(1,l1)],none⟩
noncomputable def m (x : gX) : Option fY := bindO (M9.m { most := 40,l := [(x.xi,x.xs)] }) fun y => bif bif !y then true else decide ((↑x.s.length : Int) > 60) then bindO (M10.m PUnit.unit) fun y => some y else bindO (M11.m { i := x.xi,s := x.xs }) fun y => bindO (M26.m { i := y.fst,s := y.snd }) fun y_1 => bindO (M27.m { s := y_1 }) fun y_2 => bindO (bif !y_2.snd.snd != 0 then M25.m { ai := y.fst,as_ := y.snd,bi := y_2.fst,bs := y_2.snd.fst } else some false) fun y_3 => bif inR (↑x.xi.length : Int) (List.length y_1) || !!bif bif y_2.snd.snd != 0 then true else !y_3 then true else (↑(List.length y_1) : Int) != IntKind.i64.wrap (IntKind.i64.wrap ((↑x.xi.length : Int) + 1) + (↑x.xs.length : Int)) then bif bif bif bif y_2.snd.snd != 0 then true else !y_3 then true else (↑(List.length y_1) : Int) != IntKind.i64.wrap (IntKind.i64.wrap ((↑x.xi.length : Int) + 1) + (↑x.xs.length : Int)) then true else byteAt y_1 (↑x.xi.length : Int).toNat != 124 then some false else bindO (iter s0 { s := x.s,t := y_1,i := 0,xi := x.xi,xs := x.xs,ai := y.fst,as_ := y.snd }) fun s => sumC s (fun y => bindO (iter s1 { s := y.s,bars := 0,good := true,i := 0 }) fun y => bindO (M27.m { s := y.s }) fun y_4 => bif bif y.bars != 1 then true else !y.good then bindO (bif bif y_4.snd.snd == 4 then IntKind.i64.wrap ((↑y_4.fst.length : Int) + (↑y_4.snd.fst.length : Int)) == 0 else false then M10.m PUnit.unit else some false) fun y => some (bif bif y_4.snd.snd == 4 then IntKind.i64.wrap ((↑y_4.fst.length : Int) + (↑y_4.snd.fst.length : Int)) == 0 else false then y else false) else bindO (bif y_4.snd.snd == 0 then M26.m { i := y_4.fst,s := y_4.snd.fst } else some []) fun y_5 => bindO (bif bif y_4.snd.snd == 0 then y_5 == y.s else false then M10.m PUnit.unit else some false) fun y_6 => some (bif bif y_4.snd.snd == 0 then y_5 == y.s else false then y_6 else false)) fun z => some z.r else none
theorem m_eq (x : gX) : exec E0 148 C6 0 (initS 0 (g.A x)) (g.H x) (finish 0 ty [.tmp 4] f) = m x := by kernel_rfl
theorem tl : topL C6 0 = [(0,C6.bodyAt 0),(1,C6.bodyAt 1)] := by kernel_rfl
theorem known : Known Try.prog 6 g f m :=
 mk_known mixed (env_ok ty_ok cl_ok _) s6 rfl rfl tl (AllL.cons rfl l0_ok (AllL.cons rfl l1_ok AllL.nil)) (fun _ _ => ⟨rfl,rfl⟩) (fun _ _ => ⟨rfl,rfl⟩) m_eq
end M6
end Go.Proofs.Ytnmlmdlhhphcoaa
