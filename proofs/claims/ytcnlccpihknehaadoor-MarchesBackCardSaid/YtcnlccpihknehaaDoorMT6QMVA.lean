/-
  The functions of marches, run on symbolic values.
-/
import Derived.Test.YtcnlccpihknehaaDoorMT6QMx
set_option linter.all false
namespace Go.Proofs.YtcnlccpihknehaaDoor
open Go.Abs
set_option maxRecDepth 100000
namespace M6
structure gX where
 orders : List (Int)
 ops : List (List (Int))
 s : List UInt8
def g : Sg gX where
 vs := [.agg [.arr (.int .u8),.arr (.sl (.int .u8))],.c (.sg)]
 h := []
 to := fun a b => ⟨a.1.1,a.1.2.1,a.2.1⟩
 fa := fun x => ((x.orders,(x.ops,())),(x.s,()))
 fh := fun x => ()
abbrev fY := Bool
def f : Ft fY where
 ord := none
 sh := .c (.bo)
 h := []
 to := fun a b => (a)
 fv := fun y => y
 fh := fun y => ()
noncomputable def cl : List (FuncId × Con) := [(16,M16.con),(17,M17.con),(18,M18.con),(25,M25.con),(27,M27.con),(26,M26.con),(19,M19.con)]
theorem cl_ok : allCon Tryd.prog cl := ⟨M16.con_ok,M17.con_ok,M18.con_ok,M25.con_ok,M27.con_ok,M26.con_ok,M19.con_ok,trivial⟩
noncomputable def E0 : Env := ⟨ty,cfOf cl,fun _ => none,none⟩
noncomputable def m (x : gX) : Option fY := bindO (M16.m { orders := x.orders,ops := x.ops }) fun y => bif bif y == 1 then true else decide ((↑x.s.length : Int) > 300) then bindO (M17.m PUnit.unit) fun y => some y else bindO (M18.m { orders := x.orders,ops := x.ops }) fun y => bindO (M25.m { m := y }) fun y_1 => bif !y_1 == [] then bindO (M27.m { s := y_1 }) fun y_2 => bindO (bif !bif y_2.snd.snd != 0 then true else y_2.snd.fst != 0 then M26.m { s := y,t := y_2.fst } else some false) fun y => bindO (bif !bif bif y_2.snd.snd != 0 then true else y_2.snd.fst != 0 then true else !y then M25.m { m := y_2.fst } else some []) fun y_3 => bif bif bif bif y_2.snd.snd != 0 then true else y_2.snd.fst != 0 then true else !y then true else !y_3 == y_1 then some false else bif decide (0 ≤ IntKind.i64.wrap ((↑(List.length y_1) : Int) - 1)) && decide (IntKind.i64.wrap ((↑(List.length y_1) : Int) - 1) ≤ (↑(List.length y_1) : Int)) && true then bindO (M27.m { s := List.take ((IntKind.i64.wrap ((↑(List.length y_1) : Int) - 1)).toNat - 0) (List.drop 0 y_1) }) fun y => bif leB (List.length y_1 + 1) 9223372036854775807 then bindO (M27.m { s := y_1 ++ [120] }) fun y_4 => bif bif bif bif y.snd.snd != 4 then true else y.snd.fst != IntKind.i64.wrap ((↑(List.length y_1) : Int) - 1) then true else y_4.snd.snd != 4 then true else y_4.snd.fst != (↑(List.length y_1) : Int) then some false else bindO (M27.m { s := x.s }) fun y => bif y.snd.snd == 0 then bindO (bif y.snd.fst == 0 then M25.m { m := y.fst } else some []) fun y_5 => bindO (bif bif y.snd.fst == 0 then y_5 == x.s else false then M19.m { m := y.fst } else some (Int.ofNat 0)) fun y_6 => bindO (bif (bif y.snd.fst == 0 then y_5 == x.s else false) && !y_6 == 0 then M19.m { m := y.fst } else some (Int.ofNat 0)) fun y_7 => bindO (bif bif bif y.snd.fst == 0 then y_5 == x.s else false then bif y_6 == 0 then true else y_7 == 11 else false then M17.m PUnit.unit else some false) fun y_8 => some (bif bif bif y.snd.fst == 0 then y_5 == x.s else false then bif y_6 == 0 then true else y_7 == 11 else false then y_8 else false) else bindO (bif bif bif bif (↑y.fst.length : Int) == 0 then decide (y.snd.fst ≥ 0) else false then decide (y.snd.fst ≤ (↑x.s.length : Int)) else false then bif y.snd.snd == 4 then true else y.snd.snd == 3 else false then M17.m PUnit.unit else some false) fun y_5 => some (bif bif bif bif (↑y.fst.length : Int) == 0 then decide (y.snd.fst ≥ 0) else false then decide (y.snd.fst ≤ (↑x.s.length : Int)) else false then bif y.snd.snd == 4 then true else y.snd.snd == 3 else false then y_5 else false) else none else none else bindO (M27.m { s := x.s }) fun y => bif y.snd.snd == 0 then bindO (bif y.snd.fst == 0 then M25.m { m := y.fst } else some []) fun y_2 => bindO (bif bif y.snd.fst == 0 then y_2 == x.s else false then M19.m { m := y.fst } else some (Int.ofNat 0)) fun y_3 => bindO (bif (bif y.snd.fst == 0 then y_2 == x.s else false) && !y_3 == 0 then M19.m { m := y.fst } else some (Int.ofNat 0)) fun y_4 => bindO (bif bif bif y.snd.fst == 0 then y_2 == x.s else false then bif y_3 == 0 then true else y_4 == 11 else false then M17.m PUnit.unit else some false) fun y_5 => some (bif bif bif y.snd.fst == 0 then y_2 == x.s else false then bif y_3 == 0 then true else y_4 == 11 else false then y_5 else false) else bindO (bif bif bif bif (↑y.fst.length : Int) == 0 then decide (y.snd.fst ≥ 0) else false then decide (y.snd.fst ≤ (↑x.s.length : Int)) else false then bif y.snd.snd == 4 then true else y.snd.snd == 3 else false then M17.m PUnit.unit else some false) fun y_2 => some (bif bif bif bif (↑y.fst.length : Int) == 0 then decide (y.snd.fst ≥ 0) else false then decide (y.snd.fst ≤ (↑x.s.length : Int)) else false then bif y.snd.snd == 4 then true else y.snd.snd == 3 else false then y_2 else false)
theorem m_eq (x : gX) : exec E0 147 C6 0 (initS 0 (g.A x)) (g.H x) (finish 0 ty [.tmp 4] f) = m x := by kernel_rfl
theorem tl : topL C6 0 = [] := by kernel_rfl
theorem known : Known Tryd.prog 6 g f m :=
 mk_known mixed (env_ok ty_ok cl_ok _) s6 rfl rfl tl AllL.nil (fun _ _ => ⟨rfl,rfl⟩) (fun _ _ => ⟨rfl,rfl⟩) m_eq
end M6
end Go.Proofs.YtcnlccpihknehaaDoor
