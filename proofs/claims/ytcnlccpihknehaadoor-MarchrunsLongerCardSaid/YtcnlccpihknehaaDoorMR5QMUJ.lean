/-
  The functions of march runs, run on symbolic values.
-/
import Derived.Test.YtcnlccpihknehaaDoorMR5QMw
set_option linter.all false
namespace Go.Proofs.YtcnlccpihknehaaDoor
open Go.Abs
set_option maxRecDepth 100000
namespace M13
structure gX where
 orders : List (Int)
 ops : List (List (Int))
 zorders : List (Int)
 zops : List (List (Int))
 size : Int
 start : Int
 cls : Int
 cell : Int
 other : Int
def g : Sg gX where
 vs := [.agg [.arr (.int .u8),.arr (.sl (.int .u8))],.agg [.arr (.int .u8),.arr (.sl (.int .u8))],.agg [.it .u8,.it .u16,.it .u8,.it .u8,.it .u8]]
 h := []
 to := fun a b => ⟨a.1.1,a.1.2.1,a.2.1.1,a.2.1.2.1,a.2.2.1.1,a.2.2.1.2.1,a.2.2.1.2.2.1,a.2.2.1.2.2.2.1,a.2.2.1.2.2.2.2.1⟩
 fa := fun x => ((x.orders,(x.ops,())),((x.zorders,(x.zops,())),((x.size,(x.start,(x.cls,(x.cell,(x.other,()))))),())))
 fh := fun x => ()
abbrev fY := Bool
def f : Ft fY where
 ord := none
 sh := .c (.bo)
 h := []
 to := fun a b => (a)
 fv := fun y => y
 fh := fun y => ()
noncomputable def cl : List (FuncId × Con) := [(30,M30.con),(31,F11.con),(38,F14.con),(39,M39.con'),(35,M35.con)]
theorem cl_ok : allCon Tryd.prog cl := ⟨M30.con_ok,F11.con_ok,F14.con_ok,M39.con_ok',M35.con_ok,trivial⟩
noncomputable def E0 : Env := ⟨ty,cfOf cl,fun _ => none,none⟩
noncomputable def m (x : gX) : Option fY := bindO (M30.m { orders := x.orders,ops := x.ops }) fun y => bindO (M30.m { orders := x.zorders,ops := x.zops }) fun y_1 => bindO (F11.m { size := x.size,start := x.start,cls := x.cls,cell := x.cell,other := x.other }) fun y_2 => bif y_2.snd.snd.snd == 0 then bindO (M35.m PUnit.unit) fun y => some y else bif roomB (List.length y) 32 then bif eqN (List.length y) (List.length y) && roomB (List.length y + List.length y_1) 32 then bindO (F14.m { size := x.size,start := x.start,cls := x.cls,cell := x.cell,other := x.other }) fun y_3 => bindO (M39.m { m := y,n := y_3,cls := y_2.fst,cell := y_2.snd.fst,other := y_2.snd.snd.fst }) fun y_4 => bindO (F14.m { size := x.size,start := x.start,cls := x.cls,cell := x.cell,other := x.other }) fun y_5 => bindO (bif leB (0 + (List.length y + List.length y_1)) (y ++ y_1).length && true then M39.m { m := List.take (List.length y + List.length y_1) (List.drop 0 (y ++ y_1)),n := y_5,cls := y_2.fst,cell := y_2.snd.fst,other := y_2.snd.snd.fst } else none) fun y => bindO (bif bif bif y_4.snd == 0 then y.snd == 0 else false then bif !y_4.fst then true else y.fst else false then M35.m PUnit.unit else some false) fun y_6 => some (bif bif bif y_4.snd == 0 then y.snd == 0 else false then bif !y_4.fst then true else y.fst else false then y_6 else false) else none else none
theorem m_eq (x : gX) : exec E0 64 C13 0 (initS 0 (g.A x)) (g.H x) (finish 0 ty [.tmp 6] f) = m x := by kernel_rfl
theorem tl : topL C13 0 = [] := by kernel_rfl
theorem known : Known Tryd.prog 13 g f m :=
 mk_known mixed (env_ok ty_ok cl_ok _) s13 rfl rfl tl AllL.nil (fun _ _ => ⟨rfl,rfl⟩) (fun _ _ => ⟨rfl,rfl⟩) m_eq
end M13
end Go.Proofs.YtcnlccpihknehaaDoor
