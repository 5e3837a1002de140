/-
  The functions of march runs, run on symbolic values.
-/
import Derived.Test.YtcnlccpihknehaaDoorMR8QMw
set_option linter.all false
namespace Go.Proofs.YtcnlccpihknehaaDoor
open Go.Abs
set_option maxRecDepth 100000
namespace M11
structure gX where
 orders : List (Int)
 ops : List (List (Int))
 size : Int
 start : Int
 cls : Int
 cell : Int
 other : Int
def g : Sg gX where
 vs := [.agg [.arr (.int .u8),.arr (.sl (.int .u8))],.agg [.it .u8,.it .u16,.it .u8,.it .u8,.it .u8]]
 h := []
 to := fun a b => ⟨a.1.1,a.1.2.1,a.2.1.1,a.2.1.2.1,a.2.1.2.2.1,a.2.1.2.2.2.1,a.2.1.2.2.2.2.1⟩
 fa := fun x => ((x.orders,(x.ops,())),((x.size,(x.start,(x.cls,(x.cell,(x.other,()))))),()))
 fh := fun x => ()
abbrev fY := Bool
def f : Ft fY where
 ord := none
 sh := .c (.bo)
 h := []
 to := fun a b => (a)
 fv := fun y => y
 fh := fun y => ()
noncomputable def cl : List (FuncId × Con) := [(30,M30.con),(31,F11.con),(38,F14.con),(32,M32o.con),(39,M39.con),(35,M35.con)]
theorem cl_ok : allCon Tryd.prog cl := ⟨M30.con_ok,F11.con_ok,F14.con_ok,M32o.con_ok,M39.con_ok,M35.con_ok,trivial⟩
noncomputable def E2 : Env := ⟨ty,cfOf cl,fun _ => none,none⟩
structure p1X where
 m : List ((Int) × List ((Bool) × Int))
 n : Int
 all : Bool
 k : Int
 start_lo : Nat
 start_len : Nat
 i : Int
 size : Int
 start : Int
 cls : Int
 cell : Int
 other : Int
 dcls : Int
 dcell : Int
 dother : Int
 ss : List (Int)
def p1 : Pt p1X where
 own := [.reg 11 (.int .u8)]
 t := ⟨[(3,.c (.ptr 1 0)),(5,.c (.arr (.pair (.int .u8) (.sl (.pair .bool (.int .u8)))))),(6,.c (.ptr 2 0)),(8,.c (.it .i64)),(9,.c (.bo)),(10,.c (.it .i64)),(11,.c (.sl 3 0 1)),(12,.c (.it .i64))],[.st [.junk,.junk] 1 0,.st [.it .u8,.it .u16,.it .u8,.it .u8,.it .u8] 1 0,.st [.it .u8,.it .i64,.it .i64] 1 0,.arr (.int .u8) 0]⟩
 to := fun v => ⟨v.1.2.1,v.1.2.2.2.1,v.1.2.2.2.2.1,v.1.2.2.2.2.2.1,v.1.2.2.2.2.2.2.1.1,v.1.2.2.2.2.2.2.1.2,v.1.2.2.2.2.2.2.2.1,v.2.2.1.1,v.2.2.1.2.1,v.2.2.1.2.2.1,v.2.2.1.2.2.2.1,v.2.2.1.2.2.2.2.1,v.2.2.2.1.1,v.2.2.2.1.2.1,v.2.2.2.1.2.2.1,v.2.2.2.2.1⟩
 fr := fun x => (((),(x.m,((),(x.n,(x.all,(x.k,((x.start_lo,x.start_len),(x.i,())))))))),(((),((),())),((x.size,(x.start,(x.cls,(x.cell,(x.other,()))))),((x.dcls,(x.dcell,(x.dother,()))),(x.ss,())))))
structure q1X where
 m : List ((Int) × List ((Bool) × Int))
 n : Int
 all : Bool
 k : Int
 start_lo : Nat
 start_len : Nat
 size : Int
 start : Int
 cls : Int
 cell : Int
 other : Int
 dcls : Int
 dcell : Int
 dother : Int
 ss : List (Int)
def q1 : Pt q1X where
 own := []
 t := ⟨[(3,.c (.ptr 1 0)),(5,.c (.arr (.pair (.int .u8) (.sl (.pair .bool (.int .u8)))))),(6,.c (.ptr 2 0)),(8,.c (.it .i64)),(9,.c (.bo)),(10,.c (.it .i64)),(11,.c (.sl 3 0 1))],[.st [.junk,.junk] 1 0,.st [.it .u8,.it .u16,.it .u8,.it .u8,.it .u8] 1 0,.st [.it .u8,.it .i64,.it .i64] 1 0,.arr (.int .u8) 0]⟩
 to := fun v => ⟨v.1.2.1,v.1.2.2.2.1,v.1.2.2.2.2.1,v.1.2.2.2.2.2.1,v.1.2.2.2.2.2.2.1.1,v.1.2.2.2.2.2.2.1.2,v.2.2.1.1,v.2.2.1.2.1,v.2.2.1.2.2.1,v.2.2.1.2.2.2.1,v.2.2.1.2.2.2.2.1,v.2.2.2.1.1,v.2.2.2.1.2.1,v.2.2.2.1.2.2.1,v.2.2.2.2.1⟩
 fr := fun x => (((),(x.m,((),(x.n,(x.all,(x.k,((x.start_lo,x.start_len),()))))))),(((),((),())),((x.size,(x.start,(x.cls,(x.cell,(x.other,()))))),((x.dcls,(x.dcell,(x.dother,()))),(x.ss,())))))
noncomputable def s1 (x : p1X) : Option (p1X ⊕ q1X) := bif decide (x.i < x.n) then bif decide (0 ≤ x.i) then bif eqN x.start_lo 0 && eqN x.ss.length x.start_len && roomB (x.start_len + 1) 1 then some (Sum.inl { m := x.m,n := x.n,all := x.all,k := x.k,start_lo := 0,start_len := x.start_len + 1,i := IntKind.i64.wrap (x.i + 1),size := x.size,start := x.start,cls := x.cls,cell := x.cell,other := x.other,dcls := x.dcls,dcell := x.dcell,dother := x.dother,ss := x.ss ++ [IntKind.u8.wrap (IntKind.i64.wrap (↑(BitVec.ofInt 64 (x.k.fdiv (2 ^ min x.i.toNat 64)) &&& BitVec.ofInt 64 1).toNat : Int))] }) else none else none
else
 some
   (Sum.inr
     { m := x.m,n := x.n,all := x.all,k := x.k,start_lo := x.start_lo,start_len := x.start_len,size := x.size,start := x.start,cls := x.cls,cell := x.cell,
       other := x.other,dcls := x.dcls,dcell := x.dcell,dother := x.dother,ss := x.ss })
theorem s1_eq (x : p1X) : exec E2 102 (C11.bodyAt 1) 2 (p1.R x) (p1.H x) (roundK 0 p1 (.exit 2) q1) = s1 x := by kernel_rfl
noncomputable def l1 : LoopS := mkLoop 0 p1 (.exit 2) q1 s1
theorem tl1 : topL (C11.bodyAt 1) 2 = [] := by kernel_rfl
theorem l1_ok  : LoopOkS Tryd.prog 102 none 0 (C11.bodyAt 1) l1 := mkLoop_ok mixed (env_ok ty_ok cl_ok _) (by trivial) (fun _ => rfl) (fun _ => rfl) (tl1 ▸ AllL.nil) s1_eq
noncomputable def E1 : Env := ⟨ty,cfOf cl,lpOf [(1,l1)],none⟩
structure p0X where
 m : List ((Int) × List ((Bool) × Int))
 n : Int
 all : Bool
 k : Int
 size : Int
 start : Int
 cls : Int
 cell : Int
 other : Int
 dcls : Int
 dcell : Int
 dother : Int
def p0 : Pt p0X where
 own := []
 t := ⟨[(3,.c (.ptr 1 0)),(5,.c (.arr (.pair (.int .u8) (.sl (.pair .bool (.int .u8)))))),(6,.c (.ptr 2 0)),(8,.c (.it .i64)),(9,.c (.bo)),(10,.c (.it .i64))],[.st [.junk,.junk] 1 0,.st [.it .u8,.it .u16,.it .u8,.it .u8,.it .u8] 1 0,.st [.it .u8,.it .i64,.it .i64] 1 0]⟩
 to := fun v => ⟨v.1.2.1,v.1.2.2.2.1,v.1.2.2.2.2.1,v.1.2.2.2.2.2.1,v.2.2.1.1,v.2.2.1.2.1,v.2.2.1.2.2.1,v.2.2.1.2.2.2.1,v.2.2.1.2.2.2.2.1,v.2.2.2.1.1,v.2.2.2.1.2.1,v.2.2.2.1.2.2.1⟩
 fr := fun x => (((),(x.m,((),(x.n,(x.all,(x.k,())))))),(((),((),())),((x.size,(x.start,(x.cls,(x.cell,(x.other,()))))),((x.dcls,(x.dcell,(x.dother,()))),()))))
structure q0X where
 m : List ((Int) × List ((Bool) × Int))
 n : Int
 all : Bool
 k : Int
 size : Int
 start : Int
 cls : Int
 cell : Int
 other : Int
 dcls : Int
 dcell : Int
 dother : Int
def q0 : Pt q0X where
 own := []
 t := ⟨[(3,.c (.ptr 1 0)),(5,.c (.arr (.pair (.int .u8) (.sl (.pair .bool (.int .u8)))))),(6,.c (.ptr 2 0)),(8,.c (.it .i64)),(9,.c (.bo)),(10,.c (.it .i64))],[.st [.junk,.junk] 1 0,.st [.it .u8,.it .u16,.it .u8,.it .u8,.it .u8] 1 0,.st [.it .u8,.it .i64,.it .i64] 1 0]⟩
 to := fun v => ⟨v.1.2.1,v.1.2.2.2.1,v.1.2.2.2.2.1,v.1.2.2.2.2.2.1,v.2.2.1.1,v.2.2.1.2.1,v.2.2.1.2.2.1,v.2.2.1.2.2.2.1,v.2.2.1.2.2.2.2.1,v.2.2.2.1.1,v.2.2.2.1.2.1,v.2.2.2.1.2.2.1⟩
 fr := fun x => (((),(x.m,((),(x.n,(x.all,(x.k,())))))),(((),((),())),((x.size,(x.start,(x.cls,(x.cell,(x.other,()))))),((x.dcls,(x.dcell,(x.dother,()))),()))))
structure z0X where
 r : Bool
def z0 : Pt z0X where
 own := []
 t := ⟨[(4,.c (.bo))],[]⟩
 to := fun v => ⟨v.1.1⟩
 fr := fun x => ((x.r,()),())
noncomputable def s0 (x : p0X) : Option (p0X ⊕ (q0X ⊕ z0X)) := bif decide (0 ≤ x.n) then bif decide (x.k < IntKind.i64.wrap (1 * 2 ^ min x.n.toNat 64)) then bindO (iter s1 { m := x.m,n := x.n,all := x.all,k := x.k,start_lo := 0,start_len := 0,i := 0,size := x.size,start := x.start,cls := x.cls,cell := x.cell,other := x.other,dcls := x.dcls,dcell := x.dcell,dother := x.dother,ss := [] }) fun y => bindO (M32o.m { m := y.m,size := y.size,start := y.start,cls := y.cls,cell := y.cell,other := y.other,s_lo := y.start_lo,s_len := y.start_len,down := false,ss := y.ss }) fun y_1 => bindO (M32o.m { m := y.m,size := y.size,start := y.start,cls := y.cls,cell := y.cell,other := y.other,s_lo := y.start_lo,s_len := y.start_len,down := true,ss := y_1.snd.snd }) fun y_2 => bif bif y_1.snd.fst != 0 then true else y_2.snd.fst != 0 then some (Sum.inr (Sum.inr { r := false })) else some (Sum.inl { m := y.m,n := y.n,all := bif bif y.all then decide ((↑y_1.fst.length : Int) > 0) else false then decide ((↑y_2.fst.length : Int) > 0) else false,k := IntKind.i64.wrap (y.k + 1),size := y.size,start := y.start,cls := y.cls,cell := y.cell,other := y.other,dcls := y.dcls,dcell := y.dcell,dother := y.dother }) else some (Sum.inr (Sum.inl { m := x.m,n := x.n,all := x.all,k := x.k,size := x.size,start := x.start,cls := x.cls,cell := x.cell,other := x.other,dcls := x.dcls,dcell := x.dcell,dother := x.dother }))
else none
theorem s0_eq (x : p0X) : exec E1 102 (C11.bodyAt 0) 1 (p0.R x) (p0.H x) (roundK2 0 p0 (.exit 0) q0 .ret z0) = s0 x := by kernel_rfl
noncomputable def l0 : LoopS := mkLoop2 0 p0 (.exit 0) q0 .ret z0 s0
theorem tl0 : topL (C11.bodyAt 0) 1 = [(1,C11.bodyAt 1)] := by kernel_rfl
theorem l0_ok  : LoopOkS Tryd.prog 102 none 0 (C11.bodyAt 0) l0 := mkLoop2_ok mixed (env_ok ty_ok cl_ok _) (by trivial) (by trivial) (fun _ => rfl) (fun _ => rfl) (fun _ => rfl) (tl0 ▸ (AllL.cons rfl l1_ok AllL.nil)) s0_eq
noncomputable def E0 : Env := ⟨ty,cfOf cl,lpOf [(0,l0),(1,l1)],none⟩
noncomputable def m (x : gX) : Option fY := bindO (M30.m { orders := x.orders,ops := x.ops }) fun y => bindO (F11.m { size := x.size.tmod 4,start := x.start,cls := x.cls,cell := x.cell,other := x.other }) fun y_1 => bif y_1.snd.snd.snd == 0 then bindO (M35.m PUnit.unit) fun y => some y else bindO (F14.m { size := x.size.tmod 4,start := x.start,cls := x.cls,cell := x.cell,other := x.other }) fun y_2 => bindO (iter s0 { m := y,n := y_2,all := true,k := 0,size := x.size.tmod 4,start := x.start,cls := x.cls,cell := x.cell,other := x.other,dcls := y_1.fst,dcell := y_1.snd.fst,dother := y_1.snd.snd.fst }) fun s => sumC s (fun y => bindO (M39.m { m := y.m,n := y.n,cls := y.dcls,cell := y.dcell,other := y.dother }) fun y_3 => bindO (bif bif y_3.snd == 0 then y_3.fst == y.all else false then M35.m PUnit.unit else some false) fun y_4 => some (bif bif y_3.snd == 0 then y_3.fst == y.all else false then y_4 else false)) fun z => some z.r
theorem m_eq (x : gX) : exec E0 102 C11 0 (initS 0 (g.A x)) (g.H x) (finish 0 ty [.tmp 4] f) = m x := by kernel_rfl
theorem tl : topL C11 0 = [(0,C11.bodyAt 0)] := by kernel_rfl
theorem known : Known Tryd.prog 11 g f m :=
 mk_known mixed (env_ok ty_ok cl_ok _) s11 rfl rfl tl (AllL.cons rfl l0_ok AllL.nil) (fun _ _ => ⟨rfl,rfl⟩) (fun _ _ => ⟨rfl,rfl⟩) m_eq
end M11
end Go.Proofs.YtcnlccpihknehaaDoor
