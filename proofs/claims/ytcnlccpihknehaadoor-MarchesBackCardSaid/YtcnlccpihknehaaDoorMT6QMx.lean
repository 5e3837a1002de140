/-
  What the proof stands on.
-/
import Derived.Test.YtcnlccpihknehaaDoorMT6QM9
import Derived.Test.YtcnlccpihknehaaDoorMT6QMJ1
import Derived.Test.YtcnlccpihknehaaDoorMT6QMu
import Derived.Test.YtcnlccpihknehaaDoorMT6QMw
set_option linter.all false
namespace Go.Proofs.YtcnlccpihknehaaDoor
open Go.Abs
set_option maxRecDepth 100000
namespace M51
structure gX where
 s : List ((Bool) × Int)
 t : List ((Bool) × Int)
def g : Sg gX where
 vs := [.c (.arr (.pair .bool (.int .u8))),.c (.arr (.pair .bool (.int .u8)))]
 h := []
 to := fun a b => ⟨a.1,a.2.1⟩
 fa := fun x => (x.s,(x.t,()))
 fh := fun x => ()
abbrev fY := Bool
def f : Ft fY where
 ord := none
 sh := .c (.bo)
 h := []
 to := fun a b => (a)
 fv := fun y => y
 fh := fun y => ()
def cl : List (FuncId × Con) := []
theorem cl_ok : allCon Tryd.prog cl := trivial
def E1 : Env := ⟨ty,cfOf cl,fun _ => none,none⟩
structure p0X where
 s : List ((Bool) × Int)
 t : List ((Bool) × Int)
 n : Int
 i : Int
def p0 : Pt p0X where
 own := []
 t := ⟨[(0,.c (.arr (.pair .bool (.int .u8)))),(1,.c (.arr (.pair .bool (.int .u8)))),(12,.c (.it .i64)),(13,.c (.it .i64))],[]⟩
 to := fun v => ⟨v.1.1,v.1.2.1,v.1.2.2.1,v.1.2.2.2.1⟩
 fr := fun x => ((x.s,(x.t,(x.n,(x.i,())))),())
abbrev q0X := Unit
def q0 : Pt q0X where
 own := []
 t := ⟨[],[]⟩
 to := fun v => ()
 fr := fun x => ((),())
structure z0X where
 r : Bool
def z0 : Pt z0X where
 own := []
 t := ⟨[(4,.c (.bo))],[]⟩
 to := fun v => ⟨v.1.1⟩
 fr := fun x => ((x.r,()),())
def s0 (x : p0X) : Option (p0X ⊕ (q0X ⊕ z0X)) := bif decide (x.i < x.n) then bif inR x.i x.s.length then bif inR x.i x.t.length then bif !((x.s[x.i.toNat]?.getD (false,0)).fst == (x.t[x.i.toNat]?.getD (false,0)).fst && ((x.s[x.i.toNat]?.getD (false,0)).snd == (x.t[x.i.toNat]?.getD (false,0)).snd && true)) == true then some (Sum.inr (Sum.inr { r := false })) else some (Sum.inl { s := x.s,t := x.t,n := x.n,i := IntKind.i64.wrap (x.i + 1) }) else none else none
else some (Sum.inr (Sum.inl PUnit.unit))
theorem s0_eq (x : p0X) : exec E1 26 (C51.bodyAt 0) 1 (p0.R x) (p0.H x) (roundK2 0 p0 (.exit 0) q0 .ret z0) = s0 x := by kernel_rfl
noncomputable def l0 : LoopS := mkLoop2 0 p0 (.exit 0) q0 .ret z0 s0
theorem tl0 : topL (C51.bodyAt 0) 1 = [] := by kernel_rfl
theorem l0_ok  : LoopOkS Tryd.prog 26 none 0 (C51.bodyAt 0) l0 := mkLoop2_ok mixed (env_ok ty_ok cl_ok _) (by trivial) (by trivial) (fun _ => rfl) (fun _ => rfl) (fun _ => rfl) (tl0 ▸ AllL.nil) s0_eq
noncomputable def E0 : Env := ⟨ty,cfOf cl,lpOf [(0,l0)],none⟩
noncomputable def m (x : gX) : Option fY := bif (↑x.s.length : Int) != (↑x.t.length : Int) then some false
else bindO (iter s0 { s := x.s,t := x.t,n := (↑x.s.length : Int),i := 0 }) fun s => sumC s (fun y => some true) fun z => some z.r
theorem m_eq (x : gX) : exec E0 26 C51 0 (initS 0 (g.A x)) (g.H x) (finish 0 ty [.tmp 4] f) = m x := by kernel_rfl
theorem tl : topL C51 0 = [(0,C51.bodyAt 0)] := by kernel_rfl
theorem known : Known Tryd.prog 51 g f m :=
 mk_known mixed (env_ok ty_ok cl_ok _) s51 rfl rfl tl (AllL.cons rfl l0_ok AllL.nil) (fun _ _ => ⟨rfl,rfl⟩) (fun _ _ => ⟨rfl,rfl⟩) m_eq
noncomputable def con : Con := conT g f m default
theorem con_ok : ConOk Tryd.prog 51 con := conT_ok known (fun _ => rfl) rfl
end M51
namespace M50
structure gX where
 o : Int
 l : List ((Bool) × Int)
 o2 : Int
 l2 : List ((Bool) × Int)
def g : Sg gX where
 vs := [.agg [.it .u8,.arr (.pair .bool (.int .u8))],.agg [.it .u8,.arr (.pair .bool (.int .u8))]]
 h := []
 to := fun a b => ⟨a.1.1,a.1.2.1,a.2.1.1,a.2.1.2.1⟩
 fa := fun x => ((x.o,(x.l,())),((x.o2,(x.l2,())),()))
 fh := fun x => ()
abbrev fY := Bool
def f : Ft fY where
 ord := none
 sh := .c (.bo)
 h := []
 to := fun a b => (a)
 fv := fun y => y
 fh := fun y => ()
noncomputable def cl : List (FuncId × Con) := [(51,M51.con)]
theorem cl_ok : allCon Tryd.prog cl := ⟨M51.con_ok,trivial⟩
noncomputable def E0 : Env := ⟨ty,cfOf cl,fun _ => none,none⟩
noncomputable def m (x : gX) : Option fY := bindO (bif x.o == x.o2 then M51.m { s := x.l,t := x.l2 } else some false) fun y => some (bif x.o == x.o2 then y else false)
theorem m_eq (x : gX) : exec E0 17 C50 0 (initS 0 (g.A x)) (g.H x) (finish 0 ty [.tmp 4] f) = m x := by kernel_rfl
theorem tl : topL C50 0 = [] := by kernel_rfl
theorem known : Known Tryd.prog 50 g f m :=
 mk_known mixed (env_ok ty_ok cl_ok _) s50 rfl rfl tl AllL.nil (fun _ _ => ⟨rfl,rfl⟩) (fun _ _ => ⟨rfl,rfl⟩) m_eq
noncomputable def con : Con := conT g f m default
theorem con_ok : ConOk Tryd.prog 50 con := conT_ok known (fun _ => rfl) rfl
end M50
namespace M49
structure gX where
 s : List ((Int) × List ((Bool) × Int))
 t : List ((Int) × List ((Bool) × Int))
def g : Sg gX where
 vs := [.c (.arr (.pair (.int .u8) (.sl (.pair .bool (.int .u8))))),.c (.arr (.pair (.int .u8) (.sl (.pair .bool (.int .u8))))),.c (.fn 50)]
 h := []
 to := fun a b => ⟨a.1,a.2.1⟩
 fa := fun x => (x.s,(x.t,((),())))
 fh := fun x => ()
abbrev fY := Bool
def f : Ft fY where
 ord := none
 sh := .c (.bo)
 h := []
 to := fun a b => (a)
 fv := fun y => y
 fh := fun y => ()
noncomputable def cl : List (FuncId × Con) := [(50,M50.con)]
theorem cl_ok : allCon Tryd.prog cl := ⟨M50.con_ok,trivial⟩
noncomputable def E1 : Env := ⟨ty,cfOf cl,fun _ => none,none⟩
structure p0X where
 t : List ((Int) × List ((Bool) × Int))
 s : List ((Int) × List ((Bool) × Int))
 n : Int
 i : Int
def p0 : Pt p0X where
 own := []
 t := ⟨[(1,.c (.arr (.pair (.int .u8) (.sl (.pair .bool (.int .u8)))))),(2,.c (.fn 50)),(15,.c (.arr (.pair (.int .u8) (.sl (.pair .bool (.int .u8)))))),(16,.c (.it .i64)),(17,.c (.it .i64))],[]⟩
 to := fun v => ⟨v.1.1,v.1.2.2.1,v.1.2.2.2.1,v.1.2.2.2.2.1⟩
 fr := fun x => ((x.t,((),(x.s,(x.n,(x.i,()))))),())
abbrev q0X := Unit
def q0 : Pt q0X where
 own := []
 t := ⟨[],[]⟩
 to := fun v => ()
 fr := fun x => ((),())
structure z0X where
 r : Bool
def z0 : Pt z0X where
 own := []
 t := ⟨[(6,.c (.bo))],[]⟩
 to := fun v => ⟨v.1.1⟩
 fr := fun x => ((x.r,()),())
noncomputable def s0 (x : p0X) : Option (p0X ⊕ (q0X ⊕ z0X)) := bif decide (x.i < x.n) then bif inR x.i x.s.length then bif inR x.i x.t.length then bindO (M50.m { o := (x.s[x.i.toNat]?.getD (0,[])).fst,l := (x.s[x.i.toNat]?.getD (0,[])).snd,o2 := (x.t[x.i.toNat]?.getD (0,[])).fst,l2 := (x.t[x.i.toNat]?.getD (0,[])).snd }) fun y => bif !y then some (Sum.inr (Sum.inr { r := false })) else some (Sum.inl { t := x.t,s := x.s,n := x.n,i := IntKind.i64.wrap (x.i + 1) }) else none else none
else some (Sum.inr (Sum.inl PUnit.unit))
theorem s0_eq (x : p0X) : exec E1 32 (C49.bodyAt 0) 1 (p0.R x) (p0.H x) (roundK2 0 p0 (.exit 0) q0 .ret z0) = s0 x := by kernel_rfl
noncomputable def l0 : LoopS := mkLoop2 0 p0 (.exit 0) q0 .ret z0 s0
theorem tl0 : topL (C49.bodyAt 0) 1 = [] := by kernel_rfl
theorem l0_ok  : LoopOkS Tryd.prog 32 none 0 (C49.bodyAt 0) l0 := mkLoop2_ok mixed (env_ok ty_ok cl_ok _) (by trivial) (by trivial) (fun _ => rfl) (fun _ => rfl) (fun _ => rfl) (tl0 ▸ AllL.nil) s0_eq
noncomputable def E0 : Env := ⟨ty,cfOf cl,lpOf [(0,l0)],none⟩
noncomputable def m (x : gX) : Option fY := bif (↑x.s.length : Int) != (↑x.t.length : Int) then some false
else bindO (iter s0 { t := x.t,s := x.s,n := (↑x.s.length : Int),i := 0 }) fun s => sumC s (fun y => some true) fun z => some z.r
theorem m_eq (x : gX) : exec E0 32 C49 0 (initS 0 (g.A x)) (g.H x) (finish 0 ty [.tmp 6] f) = m x := by kernel_rfl
theorem tl : topL C49 0 = [(0,C49.bodyAt 0)] := by kernel_rfl
theorem known : Known Tryd.prog 49 g f m :=
 mk_known mixed (env_ok ty_ok cl_ok _) s49 rfl rfl tl (AllL.cons rfl l0_ok AllL.nil) (fun _ _ => ⟨rfl,rfl⟩) (fun _ _ => ⟨rfl,rfl⟩) m_eq
noncomputable def con : Con := conT g f m default
theorem con_ok : ConOk Tryd.prog 49 con := conT_ok known (fun _ => rfl) rfl
end M49
namespace M26
structure gX where
 s : List ((Int) × List ((Bool) × Int))
 t : List ((Int) × List ((Bool) × Int))
def g : Sg gX where
 vs := [.c (.arr (.pair (.int .u8) (.sl (.pair .bool (.int .u8))))),.c (.arr (.pair (.int .u8) (.sl (.pair .bool (.int .u8)))))]
 h := []
 to := fun a b => ⟨a.1,a.2.1⟩
 fa := fun x => (x.s,(x.t,()))
 fh := fun x => ()
abbrev fY := Bool
def f : Ft fY where
 ord := none
 sh := .c (.bo)
 h := []
 to := fun a b => (a)
 fv := fun y => y
 fh := fun y => ()
noncomputable def cl : List (FuncId × Con) := [(49,M49.con)]
theorem cl_ok : allCon Tryd.prog cl := ⟨M49.con_ok,trivial⟩
noncomputable def E0 : Env := ⟨ty,cfOf cl,fun _ => none,none⟩
noncomputable def m (x : gX) : Option fY := bindO (M49.m { s := x.s,t := x.t }) fun y => some y
theorem m_eq (x : gX) : exec E0 8 C26 0 (initS 0 (g.A x)) (g.H x) (finish 0 ty [.tmp 4] f) = m x := by kernel_rfl
theorem tl : topL C26 0 = [] := by kernel_rfl
theorem known : Known Tryd.prog 26 g f m :=
 mk_known mixed (env_ok ty_ok cl_ok _) s26 rfl rfl tl AllL.nil (fun _ _ => ⟨rfl,rfl⟩) (fun _ _ => ⟨rfl,rfl⟩) m_eq
noncomputable def con : Con := conT g f m default
theorem con_ok : ConOk Tryd.prog 26 con := conT_ok known (fun _ => rfl) rfl
end M26
end Go.Proofs.YtcnlccpihknehaaDoor
namespace Go.Proofs.YtcnlccpihknehaaDoor
open Go.Abs
theorem Tryd.ti103 : tinf Tryd.prog 103 = some ⟨.array 3 9,3,48,some [.str [],.str [],.str []],none⟩ := by kernel_rfl
def tb3 : TB := .at .no 103 ⟨.array 3 9,3,48,some [.str [],.str [],.str []],none⟩ (some (.pair .str (.pair .str .str))) .no
theorem tb3_ok : tb3.ok Tryd.prog := ⟨trivial,⟨Tryd.ti103,rfl⟩,trivial⟩
def ty3 : TyT := fun k => match Nat.beq k 103 with | true => tb3.find k | false => ty k
theorem ty3_ok : TyOk Tryd.prog ty3 where
 ok := fun t i c h => by
   unfold ty3 at h
   split at h
   · exact (tyOk_of tb3_ok).ok t i c h
   · exact ty_ok.ok t i c h
 lay := fun t i c h => by
   unfold ty3 at h
   split at h
   · exact (tyOk_of tb3_ok).lay t i c h
   · exact ty_ok.lay t i c h
end Go.Proofs.YtcnlccpihknehaaDoor
namespace Go.Proofs.YtcnlccpihknehaaDoor
open Go.Abs
set_option maxRecDepth 100000
namespace M46
structure gX where
 w : Bool
 v : Int
def g : Sg gX where
 vs := [.agg [.bo,.it .u8]]
 h := []
 to := fun a b => ⟨a.1.1,a.1.2.1⟩
 fa := fun x => ((x.w,(x.v,())),())
 fh := fun x => ()
abbrev fY := List UInt8
def f : Ft fY where
 ord := none
 sh := .c (.sg)
 h := []
 to := fun a b => (a)
 fv := fun y => y
 fh := fun y => ()
def cl : List (FuncId × Con) := []
theorem cl_ok : allCon Tryd.prog cl := trivial
def E0 : Env := ⟨ty3,cfOf cl,fun _ => none,none⟩
def m (x : gX) : Option fY := bif x.v == 1 then bif leB ((bif x.w then ([119] : List UInt8) else [114]).length + 1) 9223372036854775807 then some ((bif x.w then [119] else [114]) ++ [49]) else none
else bif leB ((bif x.w then ([119] : List UInt8) else [114]).length + 1) 9223372036854775807 then some ((bif x.w then [119] else [114]) ++ [48]) else none
theorem m_eq (x : gX) : exec E0 13 C46 0 (initS 0 (g.A x)) (g.H x) (finish 0 ty3 [.tmp 2] f) = m x := by kernel_rfl
theorem tl : topL C46 0 = [] := by kernel_rfl
theorem known : Known Tryd.prog 46 g f m :=
 mk_known mixed (env_ok ty3_ok cl_ok _) s46 rfl rfl tl AllL.nil (fun _ _ => ⟨rfl,rfl⟩) (fun _ _ => ⟨rfl,rfl⟩) m_eq
def con : Con := conT g f m default
theorem con_ok : ConOk Tryd.prog 46 con := conT_ok known (fun _ => rfl) rfl
end M46
namespace M47
abbrev gX := Unit
def g : Sg gX where
 vs := []
 h := []
 to := fun a b => ()
 fa := fun x => ()
 fh := fun x => ()
abbrev fY := List UInt8 × List UInt8 × List UInt8
def f : Ft fY where
 ord := none
 sh := .agg [.sg,.sg,.sg]
 h := []
 to := fun a b => (a.1,a.2.1,a.2.2.1)
 fv := fun y => (y.1,(y.2.1,(y.2.2,())))
 fh := fun y => ()
def cl : List (FuncId × Con) := []
theorem cl_ok : allCon Tryd.prog cl := trivial
def E0 : Env := ⟨ty3,cfOf cl,fun _ => none,none⟩
def m (x : gX) : Option fY := some ([97,110,121],[117,112],[100,111,119,110])
theorem m_eq (x : gX) : exec E0 2 C47 0 (initS 0 (g.A x)) (g.H x) (finish 0 ty3 [.cell 0 103] f) = m x := by kernel_rfl
theorem tl : topL C47 0 = [] := by kernel_rfl
theorem known : Known Tryd.prog 47 g f m :=
 mk_known mixed (env_ok ty3_ok cl_ok _) s47 rfl rfl tl AllL.nil (fun _ _ => ⟨rfl,rfl⟩) (fun _ _ => ⟨rfl,rfl⟩) m_eq
def con : Con := conT g f m default
theorem con_ok : ConOk Tryd.prog 47 con := conT_ok known (fun _ => rfl) rfl
end M47
namespace M25
structure gX where
 m : List ((Int) × List ((Bool) × Int))
def g : Sg gX where
 vs := [.c (.arr (.pair (.int .u8) (.sl (.pair .bool (.int .u8)))))]
 h := []
 to := fun a b => ⟨a.1⟩
 fa := fun x => (x.m,())
 fh := fun x => ()
abbrev fY := List UInt8
def f : Ft fY where
 ord := none
 sh := .c (.sg)
 h := []
 to := fun a b => (a)
 fv := fun y => y
 fh := fun y => ()
noncomputable def cl : List (FuncId × Con) := [(43,M43.con),(46,M46.con),(47,M47.con),(48,M48o.con)]
theorem cl_ok : allCon Tryd.prog cl := ⟨M43.con_ok,M46.con_ok,M47.con_ok,M48o.con_ok,trivial⟩
noncomputable def E2 : Env := ⟨ty3,cfOf cl,fun _ => none,none⟩
structure p1X where
 out_lo : Nat
 out_len : Nat
 m : List ((Int) × List ((Bool) × Int))
 n : Int
 i : Int
 ops_lo : Nat
 ops_len : Nat
 l : List ((Bool) × Int)
 n2 : Int
 j : Int
 outs : List (List UInt8)
 o : Int
 el : List ((Bool) × Int)
 ss : List (List UInt8)
def p1 : Pt p1X where
 own := [.reg 6 .str]
 t := ⟨[(3,.c (.sl 0 0 1)),(12,.c (.arr (.pair (.int .u8) (.sl (.pair .bool (.int .u8)))))),(13,.c (.it .i64)),(14,.c (.it .i64)),(5,.c (.ptr 1 0)),(6,.c (.sl 2 0 1)),(19,.c (.arr (.pair .bool (.int .u8)))),(20,.c (.it .i64)),(21,.c (.it .i64))],[.arr .str 0,.st [.it .u8,.arr (.pair .bool (.int .u8))] 1 0,.arr .str 0]⟩
 to := fun v => ⟨v.1.1.1,v.1.1.2,v.1.2.1,v.1.2.2.1,v.1.2.2.2.1,v.1.2.2.2.2.2.1.1,v.1.2.2.2.2.2.1.2,v.1.2.2.2.2.2.2.1,v.1.2.2.2.2.2.2.2.1,v.1.2.2.2.2.2.2.2.2.1,v.2.1,v.2.2.1.1,v.2.2.1.2.1,v.2.2.2.1⟩
 fr := fun x => (((x.out_lo,x.out_len),(x.m,(x.n,(x.i,((),((x.ops_lo,x.ops_len),(x.l,(x.n2,(x.j,()))))))))),(x.outs,((x.o,(x.el,())),(x.ss,()))))
structure q1X where
 out_lo : Nat
 out_len : Nat
 m : List ((Int) × List ((Bool) × Int))
 n : Int
 i : Int
 ops_lo : Nat
 ops_len : Nat
 outs : List (List UInt8)
 o : Int
 el : List ((Bool) × Int)
 ss : List (List UInt8)
def q1 : Pt q1X where
 own := []
 t := ⟨[(3,.c (.sl 0 0 1)),(12,.c (.arr (.pair (.int .u8) (.sl (.pair .bool (.int .u8)))))),(13,.c (.it .i64)),(14,.c (.it .i64)),(5,.c (.ptr 1 0)),(6,.c (.sl 2 0 1))],[.arr .str 0,.st [.it .u8,.arr (.pair .bool (.int .u8))] 1 0,.arr .str 0]⟩
 to := fun v => ⟨v.1.1.1,v.1.1.2,v.1.2.1,v.1.2.2.1,v.1.2.2.2.1,v.1.2.2.2.2.2.1.1,v.1.2.2.2.2.2.1.2,v.2.1,v.2.2.1.1,v.2.2.1.2.1,v.2.2.2.1⟩
 fr := fun x => (((x.out_lo,x.out_len),(x.m,(x.n,(x.i,((),((x.ops_lo,x.ops_len),())))))),(x.outs,((x.o,(x.el,())),(x.ss,()))))
noncomputable def s1 (x : p1X) : Option (p1X ⊕ q1X) := bif decide (x.j < x.n2) then bif inR x.j x.l.length then bindO (M46.m { w := (x.l[x.j.toNat]?.getD (false,0)).fst,v := (x.l[x.j.toNat]?.getD (false,0)).snd }) fun y => bif eqN x.ops_lo 0 && eqN x.ss.length x.ops_len && roomB (x.ops_len + 1) 16 then some (Sum.inl { out_lo := x.out_lo,out_len := x.out_len,m := x.m,n := x.n,i := x.i,ops_lo := 0,ops_len := x.ops_len + 1,l := x.l,n2 := x.n2,j := IntKind.i64.wrap (x.j + 1),outs := x.outs,o := x.o,el := x.el,ss := x.ss ++ [y] }) else none else none
else
 some
   (Sum.inr { out_lo := x.out_lo,out_len := x.out_len,m := x.m,n := x.n,i := x.i,ops_lo := x.ops_lo,ops_len := x.ops_len,outs := x.outs,o := x.o,el := x.el,ss := x.ss })
theorem s1_eq (x : p1X) : exec E2 46 (C25.bodyAt 1) 2 (p1.R x) (p1.H x) (roundK 0 p1 (.exit 2) q1) = s1 x := by kernel_rfl
noncomputable def l1 : LoopS := mkLoop 0 p1 (.exit 2) q1 s1
theorem tl1 : topL (C25.bodyAt 1) 2 = [] := by kernel_rfl
theorem l1_ok  : LoopOkS Tryd.prog 46 none 0 (C25.bodyAt 1) l1 := mkLoop_ok mixed (env_ok ty3_ok cl_ok _) (by trivial) (fun _ => rfl) (fun _ => rfl) (tl1 ▸ AllL.nil) s1_eq
noncomputable def E1 : Env := ⟨ty3,cfOf cl,lpOf [(1,l1)],none⟩
structure p0X where
 out_lo : Nat
 out_len : Nat
 m : List ((Int) × List ((Bool) × Int))
 n : Int
 i : Int
 outs : List (List UInt8)
def p0 : Pt p0X where
 own := [.reg 3 .str]
 t := ⟨[(3,.c (.sl 0 0 1)),(12,.c (.arr (.pair (.int .u8) (.sl (.pair .bool (.int .u8)))))),(13,.c (.it .i64)),(14,.c (.it .i64))],[.arr .str 0]⟩
 to := fun v => ⟨v.1.1.1,v.1.1.2,v.1.2.1,v.1.2.2.1,v.1.2.2.2.1,v.2.1⟩
 fr := fun x => (((x.out_lo,x.out_len),(x.m,(x.n,(x.i,())))),(x.outs,()))
structure q0X where
 out_lo : Nat
 out_len : Nat
 outs : List (List UInt8)
def q0 : Pt q0X where
 own := []
 t := ⟨[(3,.c (.sl 0 0 1))],[.arr .str 0]⟩
 to := fun v => ⟨v.1.1.1,v.1.1.2,v.2.1⟩
 fr := fun x => (((x.out_lo,x.out_len),()),(x.outs,()))
noncomputable def s0 (x : p0X) : Option (p0X ⊕ q0X) := bif decide (x.i < x.n) then bif inR x.i x.m.length then bindO (iter s1 { out_lo := x.out_lo,out_len := x.out_len,m := x.m,n := x.n,i := x.i,ops_lo := 0,ops_len := 0,l := (x.m[x.i.toNat]?.getD (0,[])).snd,n2 := (↑(List.length (x.m[x.i.toNat]?.getD (0,[])).snd) : Int),j := 0,outs := x.outs,o := (x.m[x.i.toNat]?.getD (0,[])).fst,el := (x.m[x.i.toNat]?.getD (0,[])).snd,ss := [] }) fun y => bindO (M47.m PUnit.unit) fun y_1 => bif inR y.o 3 then bif leB (List.length ([y_1.fst,y_1.snd.fst,y_1.snd.snd][y.o.toNat]?.getD []) + 1) 9223372036854775807 then bindO (M48o.m { lo := y.ops_lo,len := y.ops_len,sep := [44],ss := y.ss }) fun y_2 => bif leB (([y_1.fst,y_1.snd.fst,y_1.snd.snd][y.o.toNat]?.getD [] ++ [40]).length + y_2.fst.length) 9223372036854775807 then bif leB (([y_1.fst,y_1.snd.fst,y_1.snd.snd][y.o.toNat]?.getD [] ++ [40] ++ y_2.fst).length + 1) 9223372036854775807 then bif eqN y.out_lo 0 && eqN y.outs.length y.out_len && roomB (y.out_len + 1) 16 then some (Sum.inl { out_lo := 0,out_len := y.out_len + 1,m := y.m,n := y.n,i := IntKind.i64.wrap (y.i + 1),outs := y.outs ++ [[y_1.fst,y_1.snd.fst,y_1.snd.snd][y.o.toNat]?.getD [] ++ [40] ++ y_2.fst ++ [41]] }) else none else none else none else none else none else none
else some (Sum.inr { out_lo := x.out_lo,out_len := x.out_len,outs := x.outs })
theorem s0_eq (x : p0X) : exec E1 46 (C25.bodyAt 0) 1 (p0.R x) (p0.H x) (roundK 0 p0 (.exit 0) q0) = s0 x := by kernel_rfl
noncomputable def l0 : LoopS := mkLoop 0 p0 (.exit 0) q0 s0
theorem tl0 : topL (C25.bodyAt 0) 1 = [(1,C25.bodyAt 1)] := by kernel_rfl
theorem l0_ok  : LoopOkS Tryd.prog 46 none 0 (C25.bodyAt 0) l0 := mkLoop_ok mixed (env_ok ty3_ok cl_ok _) (by trivial) (fun _ => rfl) (fun _ => rfl) (tl0 ▸ (AllL.cons rfl l1_ok AllL.nil)) s0_eq
noncomputable def E0 : Env := ⟨ty3,cfOf cl,lpOf [(0,l0),(1,l1)],none⟩
noncomputable def m (x : gX) : Option fY := bindO (M43.m { m := x.m }) fun y => bif y != 0 then some [] else bindO (iter s0 { out_lo := 0,out_len := 0,m := x.m,n := (↑x.m.length : Int),i := 0,outs := [] }) fun y => bindO (M48o.m { lo := y.out_lo,len := y.out_len,sep := [59,32],ss := y.outs }) fun y => some y.fst
theorem m_eq (x : gX) : exec E0 46 C25 0 (initS 0 (g.A x)) (g.H x) (finish 0 ty3 [.tmp 2] f) = m x := by kernel_rfl
theorem tl : topL C25 0 = [(0,C25.bodyAt 0)] := by kernel_rfl
theorem known : Known Tryd.prog 25 g f m :=
 mk_known mixed (env_ok ty3_ok cl_ok _) s25 rfl rfl tl (AllL.cons rfl l0_ok AllL.nil) (fun _ _ => ⟨rfl,rfl⟩) (fun _ _ => ⟨rfl,rfl⟩) m_eq
noncomputable def con : Con := conT g f m default
theorem con_ok : ConOk Tryd.prog 25 con := conT_ok known (fun _ => rfl) rfl
end M25
end Go.Proofs.YtcnlccpihknehaaDoor
namespace Go.Proofs.YtcnlccpihknehaaDoor
open Go.Abs
set_option maxRecDepth 100000
namespace M17
abbrev gX := Unit
def g : Sg gX where
 vs := []
 h := []
 to := fun a b => ()
 fa := fun x => ()
 fh := fun x => ()
abbrev fY := Bool
def f : Ft fY where
 ord := none
 sh := .c (.bo)
 h := []
 to := fun a b => (a)
 fv := fun y => y
 fh := fun y => ()
noncomputable def cl : List (FuncId × Con) := [(22,M22.con),(27,M27.con),(20,M20.con),(25,M25.con),(23,M23.con),(19,M19.con)]
theorem cl_ok : allCon Tryd.prog cl := ⟨M22.con_ok,M27.con_ok,M20.con_ok,M25.con_ok,M23.con_ok,M19.con_ok,trivial⟩
noncomputable def E0 : Env := ⟨ty,cfOf cl,fun _ => none,none⟩
noncomputable def m (x : gX) : Option fY := bindO (M22.m { s := [77,65,84,83,43] }) fun y => bindO (M27.m { s := [117,112,40,119,48,41,59] }) fun y_1 => bindO (M20.m { m := y.fst,n := 2,down := false }) fun y_2 => bif bif bif !y.snd then true else y_2.snd != 0 then true else (↑y_2.fst.length : Int) != 10 then some false else bindO (M25.m { m := y.fst }) fun y_3 => bindO (bif y_3 == [97,110,121,40,119,48,41,59,32,117,112,40,114,48,44,119,49,41,59,32,100,111,119,110,40,114,49,44,119,48,41] then M23.m { m := y.fst } else some (Int.ofNat 0)) fun y => bindO (bif bif bif bif y_3 == [97,110,121,40,119,48,41,59,32,117,112,40,114,48,44,119,49,41,59,32,100,111,119,110,40,114,49,44,119,48,41] then y == 5 else false then y_1.snd.fst == 7 else false then y_1.snd.snd == 4 else false then M19.m { m := [(1,[(false,0)])] } else some (Int.ofNat 0)) fun y_4 => bif inR 2 y_2.fst.length || !bif bif bif bif y_3 == [97,110,121,40,119,48,41,59,32,117,112,40,114,48,44,119,49,41,59,32,100,111,119,110,40,114,49,44,119,48,41] then y == 5 else false then y_1.snd.fst == 7 else false then y_1.snd.snd == 4 else false then y_4 == 11 else false then bif inR 9 y_2.fst.length || !bif bif bif bif bif y_3 == [97,110,121,40,119,48,41,59,32,117,112,40,114,48,44,119,49,41,59,32,100,111,119,110,40,114,49,44,119,48,41] then y == 5 else false then y_1.snd.fst == 7 else false then y_1.snd.snd == 4 else false then y_4 == 11 else false then ((y_2.fst[2]?.getD (0,0,false,0)).fst == 1 && ((y_2.fst[2]?.getD (0,0,false,0)).snd.fst == 0 && ((y_2.fst[2]?.getD (0,0,false,0)).snd.snd.fst == false && ((y_2.fst[2]?.getD (0,0,false,0)).snd.snd.snd == 0 && true)))) == true else false then some (bif bif bif bif bif bif y_3 == [97,110,121,40,119,48,41,59,32,117,112,40,114,48,44,119,49,41,59,32,100,111,119,110,40,114,49,44,119,48,41] then y == 5 else false then y_1.snd.fst == 7 else false then y_1.snd.snd == 4 else false then y_4 == 11 else false then ((y_2.fst[2]?.getD (0,0,false,0)).fst == 1 && ((y_2.fst[2]?.getD (0,0,false,0)).snd.fst == 0 && ((y_2.fst[2]?.getD (0,0,false,0)).snd.snd.fst == false && ((y_2.fst[2]?.getD (0,0,false,0)).snd.snd.snd == 0 && true)))) == true else false then ((y_2.fst[9]?.getD (0,0,false,0)).fst == 2 && ((y_2.fst[9]?.getD (0,0,false,0)).snd.fst == 0 && ((y_2.fst[9]?.getD (0,0,false,0)).snd.snd.fst == true && ((y_2.fst[9]?.getD (0,0,false,0)).snd.snd.snd == 0 && true)))) == true else false) else none else none
theorem m_eq (x : gX) : exec E0 75 C17 0 (initS 0 (g.A x)) (g.H x) (finish 0 ty [.tmp 0] f) = m x := by kernel_rfl
theorem tl : topL C17 0 = [] := by kernel_rfl
theorem known : Known Tryd.prog 17 g f m :=
 mk_known mixed (env_ok ty_ok cl_ok _) s17 rfl rfl tl AllL.nil (fun _ _ => ⟨rfl,rfl⟩) (fun _ _ => ⟨rfl,rfl⟩) m_eq
noncomputable def con : Con := conT g f m default
theorem con_ok : ConOk Tryd.prog 17 con := conT_ok known (fun _ => rfl) rfl
end M17
end Go.Proofs.YtcnlccpihknehaaDoor
namespace Go.Proofs.YtcnlccpihknehaaDoor
open Go.Abs
set_option maxRecDepth 100000
namespace M16
structure gX where
 orders : List (Int)
 ops : List (List (Int))
def g : Sg gX where
 vs := [.agg [.arr (.int .u8),.arr (.sl (.int .u8))]]
 h := []
 to := fun a b => ⟨a.1.1,a.1.2.1⟩
 fa := fun x => ((x.orders,(x.ops,())),())
 fh := fun x => ()
abbrev fY := Int
def f : Ft fY where
 ord := none
 sh := .c (.it .i64)
 h := []
 to := fun a b => (a)
 fv := fun y => y
 fh := fun y => ()
def cl : List (FuncId × Con) := []
theorem cl_ok : allCon Tryd.prog cl := trivial
def E1 : Env := ⟨ty,cfOf cl,fun _ => none,none⟩
structure p0X where
 i : Int
 orders : List (Int)
 ops : List (List (Int))
def p0 : Pt p0X where
 own := []
 t := ⟨[(1,.c (.ptr 0 0)),(3,.c (.it .i64))],[.st [.arr (.int .u8),.arr (.sl (.int .u8))] 1 0]⟩
 to := fun v => ⟨v.1.2.1,v.2.1.1,v.2.1.2.1⟩
 fr := fun x => (((),(x.i,())),((x.orders,(x.ops,())),()))
abbrev q0X := Unit
def q0 : Pt q0X where
 own := []
 t := ⟨[],[]⟩
 to := fun v => ()
 fr := fun x => ((),())
structure z0X where
 r : Int
def z0 : Pt z0X where
 own := []
 t := ⟨[(2,.c (.it .i64))],[]⟩
 to := fun v => ⟨v.1.1⟩
 fr := fun x => ((x.r,()),())
def s0 (x : p0X) : Option (p0X ⊕ (q0X ⊕ z0X)) := bif decide (x.i < (↑x.ops.length : Int)) then bif inR x.i x.ops.length then bif decide ((↑(List.length (x.ops[x.i.toNat]?.getD [])) : Int) > 20) then some (Sum.inr (Sum.inr { r := 1 })) else some (Sum.inl { i := IntKind.i64.wrap (x.i + 1),orders := x.orders,ops := x.ops }) else none
else some (Sum.inr (Sum.inl PUnit.unit))
theorem s0_eq (x : p0X) : exec E1 28 (C16.bodyAt 0) 1 (p0.R x) (p0.H x) (roundK2 0 p0 (.exit 0) q0 .ret z0) = s0 x := by kernel_rfl
noncomputable def l0 : LoopS := mkLoop2 0 p0 (.exit 0) q0 .ret z0 s0
theorem tl0 : topL (C16.bodyAt 0) 1 = [] := by kernel_rfl
theorem l0_ok  : LoopOkS Tryd.prog 28 none 0 (C16.bodyAt 0) l0 := mkLoop2_ok mixed (env_ok ty_ok cl_ok _) (by trivial) (by trivial) (fun _ => rfl) (fun _ => rfl) (fun _ => rfl) (tl0 ▸ AllL.nil) s0_eq
noncomputable def E0 : Env := ⟨ty,cfOf cl,lpOf [(0,l0)],none⟩
noncomputable def m (x : gX) : Option fY := bif bif decide ((↑x.orders.length : Int) > 40) then true else decide ((↑x.ops.length : Int) > 40) then some 1
else bindO (iter s0 { i := 0,orders := x.orders,ops := x.ops }) fun s => sumC s (fun y => some 0) fun z => some z.r
theorem m_eq (x : gX) : exec E0 28 C16 0 (initS 0 (g.A x)) (g.H x) (finish 0 ty [.tmp 2] f) = m x := by kernel_rfl
theorem tl : topL C16 0 = [(0,C16.bodyAt 0)] := by kernel_rfl
theorem known : Known Tryd.prog 16 g f m :=
 mk_known mixed (env_ok ty_ok cl_ok _) s16 rfl rfl tl (AllL.cons rfl l0_ok AllL.nil) (fun _ _ => ⟨rfl,rfl⟩) (fun _ _ => ⟨rfl,rfl⟩) m_eq
noncomputable def con : Con := conT g f m default
theorem con_ok : ConOk Tryd.prog 16 con := conT_ok known (fun _ => rfl) rfl
end M16
namespace M18
structure gX where
 orders : List (Int)
 ops : List (List (Int))
def g : Sg gX where
 vs := [.agg [.arr (.int .u8),.arr (.sl (.int .u8))]]
 h := []
 to := fun a b => ⟨a.1.1,a.1.2.1⟩
 fa := fun x => ((x.orders,(x.ops,())),())
 fh := fun x => ()
abbrev fY := (List ((Int) × List ((Bool) × Int)))
def f : Ft fY where
 ord := none
 sh := .c (.arr (.pair (.int .u8) (.sl (.pair .bool (.int .u8)))))
 h := []
 to := fun a b => (a)
 fv := fun y => y
 fh := fun y => ()
def cl : List (FuncId × Con) := []
theorem cl_ok : allCon Tryd.prog cl := trivial
def E2 : Env := ⟨ty,cfOf cl,fun _ => none,none⟩
structure p1X where
 m_lo : Nat
 m_len : Nat
 i : Int
 k : Int
 orders : List (Int)
 ops : List (List (Int))
 ms : List ((Int) × List ((Bool) × Int))
 o : Int
 xs_lo : Nat
 xs_len : Nat
 os : List ((Bool) × Int)
def p1 : Pt p1X where
 own := [.cell 2 1 (.pair .bool (.int .u8))]
 t := ⟨[(1,.c (.ptr 0 0)),(3,.c (.sl 1 0 2)),(4,.c (.it .i64)),(5,.c (.ptr 2 0)),(6,.c (.it .i64))],[.st [.arr (.int .u8),.arr (.sl (.int .u8))] 1 0,.arr (.pair (.int .u8) (.sl (.pair .bool (.int .u8)))) 0,.st [.it .u8,.sl 3 0 2] 1 0,.arr (.pair .bool (.int .u8)) 0]⟩
 to := fun v => ⟨v.1.2.1.1,v.1.2.1.2,v.1.2.2.1,v.1.2.2.2.2.1,v.2.1.1,v.2.1.2.1,v.2.2.1,v.2.2.2.1.1,v.2.2.2.1.2.1.1,v.2.2.2.1.2.1.2,v.2.2.2.2.1⟩
 fr := fun x => (((),((x.m_lo,x.m_len),(x.i,((),(x.k,()))))),((x.orders,(x.ops,())),(x.ms,((x.o,((x.xs_lo,x.xs_len),())),(x.os,())))))
structure q1X where
 m_lo : Nat
 m_len : Nat
 i : Int
 orders : List (Int)
 ops : List (List (Int))
 ms : List ((Int) × List ((Bool) × Int))
 o : Int
 xs_lo : Nat
 xs_len : Nat
 os : List ((Bool) × Int)
def q1 : Pt q1X where
 own := []
 t := ⟨[(1,.c (.ptr 0 0)),(3,.c (.sl 1 0 2)),(4,.c (.it .i64)),(5,.c (.ptr 2 0))],[.st [.arr (.int .u8),.arr (.sl (.int .u8))] 1 0,.arr (.pair (.int .u8) (.sl (.pair .bool (.int .u8)))) 0,.st [.it .u8,.sl 3 0 2] 1 0,.arr (.pair .bool (.int .u8)) 0]⟩
 to := fun v => ⟨v.1.2.1.1,v.1.2.1.2,v.1.2.2.1,v.2.1.1,v.2.1.2.1,v.2.2.1,v.2.2.2.1.1,v.2.2.2.1.2.1.1,v.2.2.2.1.2.1.2,v.2.2.2.2.1⟩
 fr := fun x => (((),((x.m_lo,x.m_len),(x.i,((),())))),((x.orders,(x.ops,())),(x.ms,((x.o,((x.xs_lo,x.xs_len),())),(x.os,())))))
def s1 (x : p1X) : Option (p1X ⊕ q1X) := bif inR x.i x.ops.length || !decide (x.i < (↑x.ops.length : Int)) then bif bif decide (x.i < (↑x.ops.length : Int)) then decide (x.k < (↑(List.length (x.ops[x.i.toNat]?.getD [])) : Int)) else false then bif inR x.i x.ops.length then bif inR x.k (List.length (x.ops[x.i.toNat]?.getD [])) then bif eqN x.xs_lo 0 && eqN x.os.length x.xs_len && roomB (x.xs_len + 1) 2 then some (Sum.inl { m_lo := x.m_lo,m_len := x.m_len,i := x.i,k := IntKind.i64.wrap (x.k + 1),orders := x.orders,ops := x.ops,ms := x.ms,o := x.o,xs_lo := 0,xs_len := x.xs_len + 1,os := x.os ++ [((IntKind.u8.wrap (Int.tdiv ((x.ops[x.i.toNat]?.getD [])[x.k.toNat]?.getD 0) 2)).tmod 2 == 1,IntKind.u8.wrap (Int.tmod ((x.ops[x.i.toNat]?.getD [])[x.k.toNat]?.getD 0) 2 + IntKind.u8.wrap (IntKind.u8.wrap (Int.tdiv ((x.ops[x.i.toNat]?.getD [])[x.k.toNat]?.getD 0) 4) * 2)))] }) else none else none else none else some (Sum.inr { m_lo := x.m_lo,m_len := x.m_len,i := x.i,orders := x.orders,ops := x.ops,ms := x.ms,o := x.o,xs_lo := x.xs_lo,xs_len := x.xs_len,os := x.os })
else none
theorem s1_eq (x : p1X) : exec E2 67 (C18.bodyAt 1) 2 (p1.R x) (p1.H x) (roundK 0 p1 (.exit 2) q1) = s1 x := by kernel_rfl
noncomputable def l1 : LoopS := mkLoop 0 p1 (.exit 2) q1 s1
theorem tl1 : topL (C18.bodyAt 1) 2 = [] := by kernel_rfl
theorem l1_ok  : LoopOkS Tryd.prog 67 none 0 (C18.bodyAt 1) l1 := mkLoop_ok mixed (env_ok ty_ok cl_ok _) (by trivial) (fun _ => rfl) (fun _ => rfl) (tl1 ▸ AllL.nil) s1_eq
noncomputable def E1 : Env := ⟨ty,cfOf cl,lpOf [(1,l1)],none⟩
structure p0X where
 m_lo : Nat
 m_len : Nat
 i : Int
 orders : List (Int)
 ops : List (List (Int))
 ms : List ((Int) × List ((Bool) × Int))
def p0 : Pt p0X where
 own := [.reg 3 (.pair (.int .u8) (.sl (.pair .bool (.int .u8))))]
 t := ⟨[(1,.c (.ptr 0 0)),(3,.c (.sl 1 0 2)),(4,.c (.it .i64))],[.st [.arr (.int .u8),.arr (.sl (.int .u8))] 1 0,.arr (.pair (.int .u8) (.sl (.pair .bool (.int .u8)))) 0]⟩
 to := fun v => ⟨v.1.2.1.1,v.1.2.1.2,v.1.2.2.1,v.2.1.1,v.2.1.2.1,v.2.2.1⟩
 fr := fun x => (((),((x.m_lo,x.m_len),(x.i,()))),((x.orders,(x.ops,())),(x.ms,())))
structure q0X where
 m_lo : Nat
 m_len : Nat
 orders : List (Int)
 ops : List (List (Int))
 ms : List ((Int) × List ((Bool) × Int))
def q0 : Pt q0X where
 own := []
 t := ⟨[(3,.c (.sl 1 0 2))],[.st [.arr (.int .u8),.arr (.sl (.int .u8))] 1 0,.arr (.pair (.int .u8) (.sl (.pair .bool (.int .u8)))) 0]⟩
 to := fun v => ⟨v.1.1.1,v.1.1.2,v.2.1.1,v.2.1.2.1,v.2.2.1⟩
 fr := fun x => (((x.m_lo,x.m_len),()),((x.orders,(x.ops,())),(x.ms,())))
noncomputable def s0 (x : p0X) : Option (p0X ⊕ q0X) := bif decide (x.i < (↑x.orders.length : Int)) then bif inR x.i x.orders.length then bindO (iter s1 { m_lo := x.m_lo,m_len := x.m_len,i := x.i,k := 0,orders := x.orders,ops := x.ops,ms := x.ms,o := x.orders[x.i.toNat]?.getD 0,xs_lo := 0,xs_len := 0,os := [] }) fun y => bif eqN y.m_lo 0 && eqN y.ms.length y.m_len && roomB (y.m_len + 1) 32 then bif leB (y.xs_lo + y.xs_len) y.os.length && true && true then some (Sum.inl { m_lo := 0,m_len := y.m_len + 1,i := IntKind.i64.wrap (y.i + 1),orders := y.orders,ops := y.ops,ms := y.ms ++ [(y.o,List.take y.xs_len (List.drop y.xs_lo y.os))] }) else none else none else none
else some (Sum.inr { m_lo := x.m_lo,m_len := x.m_len,orders := x.orders,ops := x.ops,ms := x.ms })
theorem s0_eq (x : p0X) : exec E1 67 (C18.bodyAt 0) 1 (p0.R x) (p0.H x) (roundK 0 p0 (.exit 0) q0) = s0 x := by kernel_rfl
noncomputable def l0 : LoopS := mkLoop 0 p0 (.exit 0) q0 s0
theorem tl0 : topL (C18.bodyAt 0) 1 = [(1,C18.bodyAt 1)] := by kernel_rfl
theorem l0_ok  : LoopOkS Tryd.prog 67 none 0 (C18.bodyAt 0) l0 := mkLoop_ok mixed (env_ok ty_ok cl_ok _) (by trivial) (fun _ => rfl) (fun _ => rfl) (tl0 ▸ (AllL.cons rfl l1_ok AllL.nil)) s0_eq
noncomputable def E0 : Env := ⟨ty,cfOf cl,lpOf [(0,l0),(1,l1)],none⟩
noncomputable def m (x : gX) : Option fY := bindO (iter s0 { m_lo := 0,m_len := 0,i := 0,orders := x.orders,ops := x.ops,ms := [] }) fun y => bif leB (y.m_lo + y.m_len) y.ms.length && true && true then some (List.take y.m_len (List.drop y.m_lo y.ms)) else none
theorem m_eq (x : gX) : exec E0 67 C18 0 (initS 0 (g.A x)) (g.H x) (finish 0 ty [.tmp 2] f) = m x := by kernel_rfl
theorem tl : topL C18 0 = [(0,C18.bodyAt 0)] := by kernel_rfl
theorem known : Known Tryd.prog 18 g f m :=
 mk_known mixed (env_ok ty_ok cl_ok _) s18 rfl rfl tl (AllL.cons rfl l0_ok AllL.nil) (fun _ _ => ⟨rfl,rfl⟩) (fun _ _ => ⟨rfl,rfl⟩) m_eq
noncomputable def con : Con := conT g f m default
theorem con_ok : ConOk Tryd.prog 18 con := conT_ok known (fun _ => rfl) rfl
end M18
end Go.Proofs.YtcnlccpihknehaaDoor
