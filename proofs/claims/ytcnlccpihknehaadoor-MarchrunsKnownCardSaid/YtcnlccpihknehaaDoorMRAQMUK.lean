/-
  The functions of march runs, run on symbolic values.
-/
import Derived.Test.YtcnlccpihknehaaDoorMRAQMw
set_option linter.all false
namespace Go.Proofs.YtcnlccpihknehaaDoor
open Go.Abs
set_option maxRecDepth 100000
namespace M10
abbrev gX := Unit
def g : Sg gX where
 vs := []
 h := []
 to := fun a b => ()
 fa := fun x => ()
 fh := fun x => ()
abbrev fY := Bool
def f : Ft fY where
 ord := none
 sh := .c (.bo)
 h := []
 to := fun a b => (a)
 fv := fun y => y
 fh := fun y => ()
noncomputable def cl : List (FuncId × Con) := [(22,M22.con),(37,M37.con),(35,M35.con)]
theorem cl_ok : allCon Tryd.prog cl := ⟨M22.con_ok,M37.con_ok,M35.con_ok,trivial⟩
noncomputable def E1 : Env := ⟨ty,cfOf cl,fun _ => none,none⟩
structure p0X where
 c : List ((Int) × List ((Bool) × Int))
 m : List ((Int) × List ((Bool) × Int))
 n : List ((Int) × List ((Bool) × Int))
 i : Int
def p0 : Pt p0X where
 own := []
 t := ⟨[(1,.c (.arr (.pair (.int .u8) (.sl (.pair .bool (.int .u8)))))),(3,.c (.arr (.pair (.int .u8) (.sl (.pair .bool (.int .u8)))))),(5,.c (.arr (.pair (.int .u8) (.sl (.pair .bool (.int .u8)))))),(7,.c (.it .i64))],[]⟩
 to := fun v => ⟨v.1.1,v.1.2.1,v.1.2.2.1,v.1.2.2.2.1⟩
 fr := fun x => ((x.c,(x.m,(x.n,(x.i,())))),())
abbrev q0X := Unit
def q0 : Pt q0X where
 own := []
 t := ⟨[],[]⟩
 to := fun v => ()
 fr := fun x => ((),())
structure z0X where
 r : Bool
def z0 : Pt z0X where
 own := []
 t := ⟨[(0,.c (.bo))],[]⟩
 to := fun v => ⟨v.1.1⟩
 fr := fun x => ((x.r,()),())
noncomputable def s0 (x : p0X) : Option (p0X ⊕ (q0X ⊕ z0X)) := bif decide (x.i < 19) then bindO (M37.m { m := x.c,c := IntKind.u8.wrap x.i }) fun y => bindO (M37.m { m := x.m,c := IntKind.u8.wrap x.i }) fun y_1 => bindO (M37.m { m := x.n,c := IntKind.u8.wrap x.i }) fun y_2 => bif bif bif bif bif bif bif y.snd != 0 then true else y_1.snd != 0 then true else y_2.snd != 0 then true else !y.fst then true else bif bif decide (x.i < 3) then true else decide (IntKind.u8.wrap x.i ≥ 14) then !y_1.fst else false then true else bif x.i == 3 then y_1.fst else false then true else bif bif decide (x.i < 4) then true else decide (IntKind.u8.wrap x.i ≥ 14) then !y_2.fst else false then some (Sum.inr (Sum.inr { r := false })) else some (Sum.inl { c := x.c,m := x.m,n := x.n,i := IntKind.i64.wrap (x.i + 1) })
else some (Sum.inr (Sum.inl PUnit.unit))
theorem s0_eq (x : p0X) : exec E1 108 (C10.bodyAt 0) 1 (p0.R x) (p0.H x) (roundK2 0 p0 (.exit 0) q0 .ret z0) = s0 x := by kernel_rfl
noncomputable def l0 : LoopS := mkLoop2 0 p0 (.exit 0) q0 .ret z0 s0
theorem tl0 : topL (C10.bodyAt 0) 1 = [] := by kernel_rfl
theorem l0_ok  : LoopOkS Tryd.prog 108 none 0 (C10.bodyAt 0) l0 := mkLoop2_ok mixed (env_ok ty_ok cl_ok _) (by trivial) (by trivial) (fun _ => rfl) (fun _ => rfl) (fun _ => rfl) (tl0 ▸ AllL.nil) s0_eq
noncomputable def E0 : Env := ⟨ty,cfOf cl,lpOf [(0,l0)],none⟩
noncomputable def m (x : gX) : Option fY := bindO (M22.m { s := [77,97,114,99,104,32,67,45] }) fun y => bindO (M22.m { s := [77,65,84,83,43] }) fun y_1 => bindO (M22.m { s := [77,65,84,83,43,43] }) fun y_2 => bif bif bif !y.snd then true else !y_1.snd then true else !y_2.snd then some false else bindO (iter s0 { c := y.fst,m := y_1.fst,n := y_2.fst,i := 0 }) fun s => sumC s (fun y => bindO (M35.m PUnit.unit) fun y => some y) fun z => some z.r
theorem m_eq (x : gX) : exec E0 108 C10 0 (initS 0 (g.A x)) (g.H x) (finish 0 ty [.tmp 0] f) = m x := by kernel_rfl
theorem tl : topL C10 0 = [(0,C10.bodyAt 0)] := by kernel_rfl
theorem known : Known Tryd.prog 10 g f m :=
 mk_known mixed (env_ok ty_ok cl_ok _) s10 rfl rfl tl (AllL.cons rfl l0_ok AllL.nil) (fun _ _ => ⟨rfl,rfl⟩) (fun _ _ => ⟨rfl,rfl⟩) m_eq
end M10
end Go.Proofs.YtcnlccpihknehaaDoor
