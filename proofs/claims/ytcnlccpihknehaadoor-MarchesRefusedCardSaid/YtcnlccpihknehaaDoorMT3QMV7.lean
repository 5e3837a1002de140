/-
  The functions of marches, run on symbolic values.
-/
import Derived.Test.YtcnlccpihknehaaDoorMT3QMx
set_option linter.all false
namespace Go.Proofs.YtcnlccpihknehaaDoor
open Go.Abs
set_option maxRecDepth 100000
namespace M3
structure gX where
 orders : List (Int)
 ops : List (List (Int))
 n : Int
def g : Sg gX where
 vs := [.agg [.arr (.int .u8),.arr (.sl (.int .u8))],.c (.it .i64)]
 h := []
 to := fun a b => ⟨a.1.1,a.1.2.1,a.2.1⟩
 fa := fun x => ((x.orders,(x.ops,())),(x.n,()))
 fh := fun x => ()
abbrev fY := Bool
def f : Ft fY where
 ord := none
 sh := .c (.bo)
 h := []
 to := fun a b => (a)
 fv := fun y => y
 fh := fun y => ()
noncomputable def cl : List (FuncId × Con) := [(16,M16.con),(17,M17.con),(18,M18.con),(19,M19.con),(20,M20.con)]
theorem cl_ok : allCon Tryd.prog cl := ⟨M16.con_ok,M17.con_ok,M18.con_ok,M19.con_ok,M20.con_ok,trivial⟩
noncomputable def E0 : Env := ⟨ty,cfOf cl,fun _ => none,none⟩
noncomputable def m (x : gX) : Option fY := bindO (M16.m { orders := x.orders,ops := x.ops }) fun y => bif y == 1 then bindO (M17.m PUnit.unit) fun y => some y else bindO (M18.m { orders := x.orders,ops := x.ops }) fun y => bindO (M19.m { m := y }) fun y_1 => bindO (M20.m { m := y,n := x.n,down := false }) fun y => bindO (bif bif y.snd == bif bif (bif bif y_1 == 0 then decide (x.n < 1) else false then 1 else y_1) == 0 then decide (x.n > 1024) else false then 3 else bif bif y_1 == 0 then decide (x.n < 1) else false then 1 else y_1 then (y.snd == 0) == decide ((↑y.fst.length : Int) > 0) else false then M17.m PUnit.unit else some false) fun y_2 => some (bif bif y.snd == bif bif (bif bif y_1 == 0 then decide (x.n < 1) else false then 1 else y_1) == 0 then decide (x.n > 1024) else false then 3 else bif bif y_1 == 0 then decide (x.n < 1) else false then 1 else y_1 then (y.snd == 0) == decide ((↑y.fst.length : Int) > 0) else false then y_2 else false)
theorem m_eq (x : gX) : exec E0 49 C3 0 (initS 0 (g.A x)) (g.H x) (finish 0 ty [.tmp 4] f) = m x := by kernel_rfl
theorem tl : topL C3 0 = [] := by kernel_rfl
theorem known : Known Tryd.prog 3 g f m :=
 mk_known mixed (env_ok ty_ok cl_ok _) s3 rfl rfl tl AllL.nil (fun _ _ => ⟨rfl,rfl⟩) (fun _ _ => ⟨rfl,rfl⟩) m_eq
end M3
end Go.Proofs.YtcnlccpihknehaaDoor
