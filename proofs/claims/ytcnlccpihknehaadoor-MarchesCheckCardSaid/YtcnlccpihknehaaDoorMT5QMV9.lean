/-
  The functions of marches, run on symbolic values.
-/
import Derived.Test.YtcnlccpihknehaaDoorMT5QMx
set_option linter.all false
namespace Go.Proofs.YtcnlccpihknehaaDoor
open Go.Abs
set_option maxRecDepth 100000
namespace M5
structure gX where
 orders : List (Int)
 ops : List (List (Int))
def g : Sg gX where
 vs := [.agg [.arr (.int .u8),.arr (.sl (.int .u8))]]
 h := []
 to := fun a b => ⟨a.1.1,a.1.2.1⟩
 fa := fun x => ((x.orders,(x.ops,())),())
 fh := fun x => ()
abbrev fY := Bool
def f : Ft fY where
 ord := none
 sh := .c (.bo)
 h := []
 to := fun a b => (a)
 fv := fun y => y
 fh := fun y => ()
noncomputable def cl : List (FuncId × Con) := [(16,M16.con),(17,M17.con),(18,M18.con),(24,M24.con),(19,M19.con),(25,M25.con),(26,M26.con)]
theorem cl_ok : allCon Tryd.prog cl := ⟨M16.con_ok,M17.con_ok,M18.con_ok,M24.con_ok,M19.con_ok,M25.con_ok,M26.con_ok,trivial⟩
noncomputable def E0 : Env := ⟨ty,cfOf cl,fun _ => none,none⟩
noncomputable def m (x : gX) : Option fY := bindO (M16.m { orders := x.orders,ops := x.ops }) fun y => bif y == 1 then bindO (M17.m PUnit.unit) fun y => some y else bindO (M18.m { orders := x.orders,ops := x.ops }) fun y => bindO (M24.m { m := y }) fun y_1 => bindO (M19.m { m := y }) fun y_2 => bindO (bif y_2 == y_1 then M25.m { m := y } else some []) fun y_3 => bindO (bif bif y_2 == y_1 then (y_3 == []) == bif y_1 == 3 then true else y_1 == 1 else false then M18.m { orders := x.orders,ops := x.ops } else some []) fun y_4 => bindO (bif bif y_2 == y_1 then (y_3 == []) == bif y_1 == 3 then true else y_1 == 1 else false then M26.m { s := y,t := y_4 } else some false) fun y => bindO (bif bif bif y_2 == y_1 then (y_3 == []) == bif y_1 == 3 then true else y_1 == 1 else false then y else false then M17.m PUnit.unit else some false) fun y_5 => some (bif bif bif y_2 == y_1 then (y_3 == []) == bif y_1 == 3 then true else y_1 == 1 else false then y else false then y_5 else false)
theorem m_eq (x : gX) : exec E0 38 C5 0 (initS 0 (g.A x)) (g.H x) (finish 0 ty [.tmp 2] f) = m x := by kernel_rfl
theorem tl : topL C5 0 = [] := by kernel_rfl
theorem known : Known Tryd.prog 5 g f m :=
 mk_known mixed (env_ok ty_ok cl_ok _) s5 rfl rfl tl AllL.nil (fun _ _ => ⟨rfl,rfl⟩) (fun _ _ => ⟨rfl,rfl⟩) m_eq
end M5
end Go.Proofs.YtcnlccpihknehaaDoor
