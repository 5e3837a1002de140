/-
  The functions of march runs, run on symbolic values.
-/
import Derived.Test.YtcnlccpihknehaaDoorMR4QMw
set_option linter.all false
namespace Go.Proofs.YtcnlccpihknehaaDoor
open Go.Abs
set_option maxRecDepth 100000
namespace M14
structure gX where
 orders : List (Int)
 ops : List (List (Int))
 size : Int
 start : Int
 cls : Int
 cell : Int
 other : Int
def g : Sg gX where
 vs := [.agg [.arr (.int .u8),.arr (.sl (.int .u8))],.agg [.it .u8,.it .u16,.it .u8,.it .u8,.it .u8]]
 h := []
 to := fun a b => ⟨a.1.1,a.1.2.1,a.2.1.1,a.2.1.2.1,a.2.1.2.2.1,a.2.1.2.2.2.1,a.2.1.2.2.2.2.1⟩
 fa := fun x => ((x.orders,(x.ops,())),((x.size,(x.start,(x.cls,(x.cell,(x.other,()))))),()))
 fh := fun x => ()
abbrev fY := Bool
def f : Ft fY where
 ord := none
 sh := .c (.bo)
 h := []
 to := fun a b => (a)
 fv := fun y => y
 fh := fun y => ()
noncomputable def cl : List (FuncId × Con) := [(30,M30.con),(31,F11.con),(38,F14.con),(41,F22.con),(39,M39.con),(29,M29.con),(35,M35.con)]
theorem cl_ok : allCon Tryd.prog cl := ⟨M30.con_ok,F11.con_ok,F14.con_ok,F22.con_ok,M39.con_ok,M29.con_ok,M35.con_ok,trivial⟩
noncomputable def E0 : Env := ⟨ty,cfOf cl,fun _ => none,none⟩
noncomputable def m (x : gX) : Option fY := bindO (M30.m { orders := x.orders,ops := x.ops }) fun y => bindO (F11.m { size := x.size,start := x.start,cls := x.cls,cell := x.cell,other := x.other }) fun y_1 => bif y_1.snd.snd.snd == 0 then bindO (M35.m PUnit.unit) fun y => some y else bindO (F14.m { size := x.size,start := x.start,cls := x.cls,cell := x.cell,other := x.other }) fun y_2 => bindO (F22.m { c := y_1.fst }) fun y_3 => bif !y_3 then bindO (M39.m { m := y,n := y_2,cls := y_1.fst,cell := y_1.snd.fst,other := y_1.snd.snd.fst }) fun y_4 => bindO (M29.m { m := y }) fun y => bindO (M39.m { m := y.fst,n := y_2,cls := y_1.fst,cell := IntKind.i64.wrap (IntKind.i64.wrap (y_2 - 1) - y_1.snd.fst),other := IntKind.i64.wrap (IntKind.i64.wrap (y_2 - 1) - y_1.snd.snd.fst) }) fun y => bindO (bif bif bif y_4.snd == 0 then y.snd == 0 else false then y_4.fst == y.fst else false then M35.m PUnit.unit else some false) fun y_5 => some (bif bif bif y_4.snd == 0 then y.snd == 0 else false then y_4.fst == y.fst else false then y_5 else false) else bindO (M39.m { m := y,n := y_2,cls := y_1.fst,cell := y_1.snd.fst,other := y_1.snd.snd.fst }) fun y_4 => bindO (M29.m { m := y }) fun y => bindO (M39.m { m := y.fst,n := y_2,cls := y_1.fst,cell := IntKind.i64.wrap (IntKind.i64.wrap (y_2 - 1) - y_1.snd.fst),other := y_1.snd.snd.fst }) fun y => bindO (bif bif bif y_4.snd == 0 then y.snd == 0 else false then y_4.fst == y.fst else false then M35.m PUnit.unit else some false) fun y_5 => some (bif bif bif y_4.snd == 0 then y.snd == 0 else false then y_4.fst == y.fst else false then y_5 else false)
theorem m_eq (x : gX) : exec E0 72 C14 0 (initS 0 (g.A x)) (g.H x) (finish 0 ty [.tmp 4] f) = m x := by kernel_rfl
theorem tl : topL C14 0 = [] := by kernel_rfl
theorem known : Known Tryd.prog 14 g f m :=
 mk_known mixed (env_ok ty_ok cl_ok _) s14 rfl rfl tl AllL.nil (fun _ _ => ⟨rfl,rfl⟩) (fun _ _ => ⟨rfl,rfl⟩) m_eq
end M14
end Go.Proofs.YtcnlccpihknehaaDoor
