/-
  The functions of march runs, run on symbolic values.
-/
import Derived.Test.YtcnlccpihknehaaDoorMR6QMw
set_option linter.all false
namespace Go.Proofs.YtcnlccpihknehaaDoor
open Go.Abs
set_option maxRecDepth 100000
namespace M15
structure gX where
 orders : List (Int)
 ops : List (List (Int))
 size : Int
 start : Int
 cls : Int
 cell : Int
 other : Int
def g : Sg gX where
 vs := [.agg [.arr (.int .u8),.arr (.sl (.int .u8))],.agg [.it .u8,.it .u16,.it .u8,.it .u8,.it .u8]]
 h := []
 to := fun a b => ⟨a.1.1,a.1.2.1,a.2.1.1,a.2.1.2.1,a.2.1.2.2.1,a.2.1.2.2.2.1,a.2.1.2.2.2.2.1⟩
 fa := fun x => ((x.orders,(x.ops,())),((x.size,(x.start,(x.cls,(x.cell,(x.other,()))))),()))
 fh := fun x => ()
abbrev fY := Bool
def f : Ft fY where
 ord := none
 sh := .c (.bo)
 h := []
 to := fun a b => (a)
 fv := fun y => y
 fh := fun y => ()
noncomputable def cl : List (FuncId × Con) := [(30,M30.con),(31,F11.con),(38,F14.con),(42,F23.con),(39,M39.con),(28,M28.con),(35,M35.con)]
theorem cl_ok : allCon Tryd.prog cl := ⟨M30.con_ok,F11.con_ok,F14.con_ok,F23.con_ok,M39.con_ok,M28.con_ok,M35.con_ok,trivial⟩
noncomputable def E0 : Env := ⟨ty,cfOf cl,fun _ => none,none⟩
noncomputable def m (x : gX) : Option fY := bindO (M30.m { orders := x.orders,ops := x.ops }) fun y => bindO (F11.m { size := x.size,start := x.start,cls := x.cls,cell := x.cell,other := x.other }) fun y_1 => bif y_1.snd.snd.snd == 0 then bindO (M35.m PUnit.unit) fun y => some y else bindO (F14.m { size := x.size,start := x.start,cls := x.cls,cell := x.cell,other := x.other }) fun y_2 => bindO (M39.m { m := y,n := y_2,cls := y_1.fst,cell := y_1.snd.fst,other := y_1.snd.snd.fst }) fun y_3 => bindO (F23.m { c := y_1.fst }) fun y_4 => bindO (M28.m { m := y }) fun y => bindO (F14.m { size := x.size,start := x.start,cls := x.cls,cell := x.cell,other := x.other }) fun y_5 => bindO (M39.m { m := y.fst,n := y_5,cls := y_4,cell := y_1.snd.fst,other := y_1.snd.snd.fst }) fun y => bindO (bif bif bif y_3.snd == 0 then y.snd == 0 else false then y_3.fst == y.fst else false then M35.m PUnit.unit else some false) fun y_6 => some (bif bif bif y_3.snd == 0 then y.snd == 0 else false then y_3.fst == y.fst else false then y_6 else false)
theorem m_eq (x : gX) : exec E0 57 C15 0 (initS 0 (g.A x)) (g.H x) (finish 0 ty [.tmp 4] f) = m x := by kernel_rfl
theorem tl : topL C15 0 = [] := by kernel_rfl
theorem known : Known Tryd.prog 15 g f m :=
 mk_known mixed (env_ok ty_ok cl_ok _) s15 rfl rfl tl AllL.nil (fun _ _ => ⟨rfl,rfl⟩) (fun _ _ => ⟨rfl,rfl⟩) m_eq
end M15
end Go.Proofs.YtcnlccpihknehaaDoor
