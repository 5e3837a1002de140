/-
  The functions of march runs, run on symbolic values.
-/
import Derived.Test.YtcnlccpihknehaaDoorMR3QMw
set_option linter.all false
namespace Go.Proofs.YtcnlccpihknehaaDoor
open Go.Abs
set_option maxRecDepth 100000
namespace M8
structure gX where
 orders : List (Int)
 ops : List (List (Int))
 size : Int
 start : Int
 cls : Int
 cell : Int
 other : Int
 down : Bool
def g : Sg gX where
 vs := [.agg [.arr (.int .u8),.arr (.sl (.int .u8))],.agg [.it .u8,.it .u16,.it .u8,.it .u8,.it .u8],.c (.bo)]
 h := []
 to := fun a b => ⟨a.1.1,a.1.2.1,a.2.1.1,a.2.1.2.1,a.2.1.2.2.1,a.2.1.2.2.2.1,a.2.1.2.2.2.2.1,a.2.2.1⟩
 fa := fun x => ((x.orders,(x.ops,())),((x.size,(x.start,(x.cls,(x.cell,(x.other,()))))),(x.down,())))
 fh := fun x => ()
abbrev fY := Bool
def f : Ft fY where
 ord := none
 sh := .c (.bo)
 h := []
 to := fun a b => (a)
 fv := fun y => y
 fh := fun y => ()
noncomputable def cl : List (FuncId × Con) := [(30,M30.con),(31,F11.con),(33,F13t.con),(32,M32.con),(34,M34.con),(35,M35.con)]
theorem cl_ok : allCon Tryd.prog cl := ⟨M30.con_ok,F11.con_ok,F13t.con_ok,M32.con_ok,M34.con_ok,M35.con_ok,trivial⟩
noncomputable def E1 : Env := ⟨ty,cfOf cl,fun _ => none,none⟩
structure p0X where
 want : List ((Int) × (Int) × (Int) × Int)
 l : List ((Int) × (Int) × (Int) × Int)
 i : Int
def p0 : Pt p0X where
 own := []
 t := ⟨[(10,.c (.arr (.pair (.int .i64) (.pair (.int .i64) (.pair (.int .u8) (.int .u8)))))),(12,.c (.arr (.pair (.int .i64) (.pair (.int .i64) (.pair (.int .u8) (.int .u8)))))),(14,.c (.it .i64))],[]⟩
 to := fun v => ⟨v.1.1,v.1.2.1,v.1.2.2.1⟩
 fr := fun x => ((x.want,(x.l,(x.i,()))),())
abbrev q0X := Unit
def q0 : Pt q0X where
 own := []
 t := ⟨[],[]⟩
 to := fun v => ()
 fr := fun x => ((),())
structure z0X where
 r : Bool
def z0 : Pt z0X where
 own := []
 t := ⟨[(6,.c (.bo))],[]⟩
 to := fun v => ⟨v.1.1⟩
 fr := fun x => ((x.r,()),())
noncomputable def s0 (x : p0X) : Option (p0X ⊕ (q0X ⊕ z0X)) := bif decide (x.i < (↑x.l.length : Int)) then bif inR x.i x.l.length then bif inR x.i x.want.length then bif !((x.l[x.i.toNat]?.getD (0,0,0,0)).fst == (x.want[x.i.toNat]?.getD (0,0,0,0)).fst && ((x.l[x.i.toNat]?.getD (0,0,0,0)).snd.fst == (x.want[x.i.toNat]?.getD (0,0,0,0)).snd.fst && ((x.l[x.i.toNat]?.getD (0,0,0,0)).snd.snd.fst == (x.want[x.i.toNat]?.getD (0,0,0,0)).snd.snd.fst && ((x.l[x.i.toNat]?.getD (0,0,0,0)).snd.snd.snd == (x.want[x.i.toNat]?.getD (0,0,0,0)).snd.snd.snd && true)))) == true then some (Sum.inr (Sum.inr { r := false })) else some (Sum.inl { want := x.want,l := x.l,i := IntKind.i64.wrap (x.i + 1) }) else none else none
else some (Sum.inr (Sum.inl PUnit.unit))
theorem s0_eq (x : p0X) : exec E1 96 (C8.bodyAt 0) 1 (p0.R x) (p0.H x) (roundK2 0 p0 (.exit 0) q0 .ret z0) = s0 x := by kernel_rfl
noncomputable def l0 : LoopS := mkLoop2 0 p0 (.exit 0) q0 .ret z0 s0
theorem tl0 : topL (C8.bodyAt 0) 1 = [] := by kernel_rfl
theorem l0_ok  : LoopOkS Tryd.prog 96 none 0 (C8.bodyAt 0) l0 := mkLoop2_ok mixed (env_ok ty_ok cl_ok _) (by trivial) (by trivial) (fun _ => rfl) (fun _ => rfl) (fun _ => rfl) (tl0 ▸ AllL.nil) s0_eq
noncomputable def E0 : Env := ⟨ty,cfOf cl,lpOf [(0,l0)],none⟩
noncomputable def m (x : gX) : Option fY := bindO (M30.m { orders := x.orders,ops := x.ops }) fun y => bindO (F11.m { size := x.size,start := x.start,cls := x.cls,cell := x.cell,other := x.other }) fun y_1 => bindO (F13t.m { size := x.size,start := x.start,cls := x.cls,cell := x.cell,other := x.other }) fun y_2 => bindO (M32.m { m := y,size := x.size,start := x.start,cls := x.cls,cell := x.cell,other := x.other,s := y_2,down := x.down }) fun y_3 => bif y_1.snd.snd.snd == 1 then bindO (F13t.m { size := x.size,start := x.start,cls := x.cls,cell := x.cell,other := x.other }) fun y_4 => bindO (M34.m { m := y,s := y_4,down := x.down,d := [(y_1.fst,y_1.snd.fst,y_1.snd.snd.fst)] }) fun y => bif bif bif bif bif y_3.snd != 0 then true else y.snd.snd != 0 then true else (↑y.fst.length : Int) != (↑y_3.fst.length : Int) then true else (↑y.snd.fst : Int) != (↑y.fst.length : Int) then true else bif y_1.snd.snd.snd == 0 then (↑y.fst.length : Int) != 0 else false then some false else bindO (iter s0 { want := y_3.fst,l := y.fst,i := 0 }) fun s => sumC s (fun y => bindO (M35.m PUnit.unit) fun y => some y) fun z => some z.r else bindO (F13t.m { size := x.size,start := x.start,cls := x.cls,cell := x.cell,other := x.other }) fun y_4 => bindO (M34.m { m := y,s := y_4,down := x.down,d := [] }) fun y => bif bif bif bif bif y_3.snd != 0 then true else y.snd.snd != 0 then true else (↑y.fst.length : Int) != (↑y_3.fst.length : Int) then true else (↑y.snd.fst : Int) != (↑y.fst.length : Int) then true else bif y_1.snd.snd.snd == 0 then (↑y.fst.length : Int) != 0 else false then some false else bindO (iter s0 { want := y_3.fst,l := y.fst,i := 0 }) fun s => sumC s (fun y => bindO (M35.m PUnit.unit) fun y => some y) fun z => some z.r
theorem m_eq (x : gX) : exec E0 96 C8 0 (initS 0 (g.A x)) (g.H x) (finish 0 ty [.tmp 6] f) = m x := by kernel_rfl
theorem tl : topL C8 0 = [(0,C8.bodyAt 0)] := by kernel_rfl
theorem known : Known Tryd.prog 8 g f m :=
 mk_known mixed (env_ok ty_ok cl_ok _) s8 rfl rfl tl (AllL.cons rfl l0_ok AllL.nil) (fun _ _ => ⟨rfl,rfl⟩) (fun _ _ => ⟨rfl,rfl⟩) m_eq
end M8
end Go.Proofs.YtcnlccpihknehaaDoor
