/-
  The functions of marches, run on symbolic values.
-/
import Derived.Test.YtcnlccpihknehaaDoorMT7QMx
set_option linter.all false
namespace Go.Proofs.YtcnlccpihknehaaDoor
open Go.Abs
set_option maxRecDepth 100000
namespace M7
structure gX where
 orders : List (Int)
 ops : List (List (Int))
def g : Sg gX where
 vs := [.agg [.arr (.int .u8),.arr (.sl (.int .u8))]]
 h := []
 to := fun a b => ⟨a.1.1,a.1.2.1⟩
 fa := fun x => ((x.orders,(x.ops,())),())
 fh := fun x => ()
abbrev fY := Bool
def f : Ft fY where
 ord := none
 sh := .c (.bo)
 h := []
 to := fun a b => (a)
 fv := fun y => y
 fh := fun y => ()
noncomputable def cl : List (FuncId × Con) := [(16,M16.con),(17,M17.con),(18,M18.con),(28,M28.con),(29,M29.con),(26,M26.con),(19,M19.con),(23,M23.con)]
theorem cl_ok : allCon Tryd.prog cl := ⟨M16.con_ok,M17.con_ok,M18.con_ok,M28.con_ok,M29.con_ok,M26.con_ok,M19.con_ok,M23.con_ok,trivial⟩
noncomputable def E2 : Env := ⟨ty,cfOf cl,fun _ => none,none⟩
structure p1X where
 m : List ((Int) × List ((Bool) × Int))
 a : List ((Int) × List ((Bool) × Int))
 b : List ((Int) × List ((Bool) × Int))
 i : Int
 k : Int
def p1 : Pt p1X where
 own := []
 t := ⟨[(3,.c (.arr (.pair (.int .u8) (.sl (.pair .bool (.int .u8)))))),(4,.c (.arr (.pair (.int .u8) (.sl (.pair .bool (.int .u8)))))),(5,.c (.arr (.pair (.int .u8) (.sl (.pair .bool (.int .u8)))))),(6,.c (.it .i64)),(7,.c (.it .i64))],[]⟩
 to := fun v => ⟨v.1.1,v.1.2.1,v.1.2.2.1,v.1.2.2.2.1,v.1.2.2.2.2.1⟩
 fr := fun x => ((x.m,(x.a,(x.b,(x.i,(x.k,()))))),())
structure q1X where
 m : List ((Int) × List ((Bool) × Int))
 a : List ((Int) × List ((Bool) × Int))
 b : List ((Int) × List ((Bool) × Int))
 i : Int
def q1 : Pt q1X where
 own := []
 t := ⟨[(3,.c (.arr (.pair (.int .u8) (.sl (.pair .bool (.int .u8)))))),(4,.c (.arr (.pair (.int .u8) (.sl (.pair .bool (.int .u8)))))),(5,.c (.arr (.pair (.int .u8) (.sl (.pair .bool (.int .u8)))))),(6,.c (.it .i64))],[]⟩
 to := fun v => ⟨v.1.1,v.1.2.1,v.1.2.2.1,v.1.2.2.2.1⟩
 fr := fun x => ((x.m,(x.a,(x.b,(x.i,())))),())
structure z1X where
 r : Bool
def z1 : Pt z1X where
 own := []
 t := ⟨[(2,.c (.bo))],[]⟩
 to := fun v => ⟨v.1.1⟩
 fr := fun x => ((x.r,()),())
noncomputable def s1 (x : p1X) : Option (p1X ⊕ (q1X ⊕ z1X)) := bif inR x.i x.m.length then bif decide (x.k < (↑(List.length (x.m[x.i.toNat]?.getD (0,[])).snd) : Int)) then bif inR x.i x.m.length then bif inR x.k (List.length (x.m[x.i.toNat]?.getD (0,[])).snd) then bif inR x.i x.a.length || !decide (((x.m[x.i.toNat]?.getD (0,[])).snd[x.k.toNat]?.getD (false,0)).snd ≤ 1) then bif inR x.k (List.length (x.a[x.i.toNat]?.getD (0,[])).snd) || !decide (((x.m[x.i.toNat]?.getD (0,[])).snd[x.k.toNat]?.getD (false,0)).snd ≤ 1) then bif inR x.i x.a.length || !((!bif decide (((x.m[x.i.toNat]?.getD (0,[])).snd[x.k.toNat]?.getD (false,0)).snd ≤ 1) then ((x.a[x.i.toNat]?.getD (0,[])).snd[x.k.toNat]?.getD (false,0)).snd == ((x.m[x.i.toNat]?.getD (0,[])).snd[x.k.toNat]?.getD (false,0)).snd else false) && decide (((x.m[x.i.toNat]?.getD (0,[])).snd[x.k.toNat]?.getD (false,0)).snd > 1)) then bif inR x.k (List.length (x.a[x.i.toNat]?.getD (0,[])).snd) || !((!bif decide (((x.m[x.i.toNat]?.getD (0,[])).snd[x.k.toNat]?.getD (false,0)).snd ≤ 1) then ((x.a[x.i.toNat]?.getD (0,[])).snd[x.k.toNat]?.getD (false,0)).snd == ((x.m[x.i.toNat]?.getD (0,[])).snd[x.k.toNat]?.getD (false,0)).snd else false) && decide (((x.m[x.i.toNat]?.getD (0,[])).snd[x.k.toNat]?.getD (false,0)).snd > 1)) then bif inR x.i x.b.length || !!bif bif decide (((x.m[x.i.toNat]?.getD (0,[])).snd[x.k.toNat]?.getD (false,0)).snd ≤ 1) then ((x.a[x.i.toNat]?.getD (0,[])).snd[x.k.toNat]?.getD (false,0)).snd == ((x.m[x.i.toNat]?.getD (0,[])).snd[x.k.toNat]?.getD (false,0)).snd else false then true else bif decide (((x.m[x.i.toNat]?.getD (0,[])).snd[x.k.toNat]?.getD (false,0)).snd > 1) then ((x.a[x.i.toNat]?.getD (0,[])).snd[x.k.toNat]?.getD (false,0)).snd != ((x.m[x.i.toNat]?.getD (0,[])).snd[x.k.toNat]?.getD (false,0)).snd else false then bif inR x.k (List.length (x.b[x.i.toNat]?.getD (0,[])).snd) || !!bif bif decide (((x.m[x.i.toNat]?.getD (0,[])).snd[x.k.toNat]?.getD (false,0)).snd ≤ 1) then ((x.a[x.i.toNat]?.getD (0,[])).snd[x.k.toNat]?.getD (false,0)).snd == ((x.m[x.i.toNat]?.getD (0,[])).snd[x.k.toNat]?.getD (false,0)).snd else false then true else bif decide (((x.m[x.i.toNat]?.getD (0,[])).snd[x.k.toNat]?.getD (false,0)).snd > 1) then ((x.a[x.i.toNat]?.getD (0,[])).snd[x.k.toNat]?.getD (false,0)).snd != ((x.m[x.i.toNat]?.getD (0,[])).snd[x.k.toNat]?.getD (false,0)).snd else false then bif inR x.i x.m.length || !!bif bif decide (((x.m[x.i.toNat]?.getD (0,[])).snd[x.k.toNat]?.getD (false,0)).snd ≤ 1) then ((x.a[x.i.toNat]?.getD (0,[])).snd[x.k.toNat]?.getD (false,0)).snd == ((x.m[x.i.toNat]?.getD (0,[])).snd[x.k.toNat]?.getD (false,0)).snd else false then true else bif decide (((x.m[x.i.toNat]?.getD (0,[])).snd[x.k.toNat]?.getD (false,0)).snd > 1) then ((x.a[x.i.toNat]?.getD (0,[])).snd[x.k.toNat]?.getD (false,0)).snd != ((x.m[x.i.toNat]?.getD (0,[])).snd[x.k.toNat]?.getD (false,0)).snd else false then bif inR x.k (List.length (x.m[x.i.toNat]?.getD (0,[])).snd) || !!bif bif decide (((x.m[x.i.toNat]?.getD (0,[])).snd[x.k.toNat]?.getD (false,0)).snd ≤ 1) then ((x.a[x.i.toNat]?.getD (0,[])).snd[x.k.toNat]?.getD (false,0)).snd == ((x.m[x.i.toNat]?.getD (0,[])).snd[x.k.toNat]?.getD (false,0)).snd else false then true else bif decide (((x.m[x.i.toNat]?.getD (0,[])).snd[x.k.toNat]?.getD (false,0)).snd > 1) then ((x.a[x.i.toNat]?.getD (0,[])).snd[x.k.toNat]?.getD (false,0)).snd != ((x.m[x.i.toNat]?.getD (0,[])).snd[x.k.toNat]?.getD (false,0)).snd else false then bif bif bif bif decide (((x.m[x.i.toNat]?.getD (0,[])).snd[x.k.toNat]?.getD (false,0)).snd ≤ 1) then ((x.a[x.i.toNat]?.getD (0,[])).snd[x.k.toNat]?.getD (false,0)).snd == ((x.m[x.i.toNat]?.getD (0,[])).snd[x.k.toNat]?.getD (false,0)).snd else false then true else bif decide (((x.m[x.i.toNat]?.getD (0,[])).snd[x.k.toNat]?.getD (false,0)).snd > 1) then ((x.a[x.i.toNat]?.getD (0,[])).snd[x.k.toNat]?.getD (false,0)).snd != ((x.m[x.i.toNat]?.getD (0,[])).snd[x.k.toNat]?.getD (false,0)).snd else false then true else !(((x.b[x.i.toNat]?.getD (0,[])).snd[x.k.toNat]?.getD (false,0)).fst == ((x.m[x.i.toNat]?.getD (0,[])).snd[x.k.toNat]?.getD (false,0)).fst && (((x.b[x.i.toNat]?.getD (0,[])).snd[x.k.toNat]?.getD (false,0)).snd == ((x.m[x.i.toNat]?.getD (0,[])).snd[x.k.toNat]?.getD (false,0)).snd && true)) == true then some (Sum.inr (Sum.inr { r := false })) else some (Sum.inl { m := x.m,a := x.a,b := x.b,i := x.i,k := IntKind.i64.wrap (x.k + 1) }) else none else none else none else none else none else none else none else none else none else none else some (Sum.inr (Sum.inl { m := x.m,a := x.a,b := x.b,i := x.i }))
else none
theorem s1_eq (x : p1X) : exec E2 209 (C7.bodyAt 1) 2 (p1.R x) (p1.H x) (roundK2 0 p1 (.exit 2) q1 .ret z1) = s1 x := by kernel_rfl
noncomputable def l1 : LoopS := mkLoop2 0 p1 (.exit 2) q1 .ret z1 s1
theorem tl1 : topL (C7.bodyAt 1) 2 = [] := by kernel_rfl
theorem l1_ok  : LoopOkS Tryd.prog 209 none 0 (C7.bodyAt 1) l1 := mkLoop2_ok mixed (env_ok ty_ok cl_ok _) (by trivial) (by trivial) (fun _ => rfl) (fun _ => rfl) (fun _ => rfl) (tl1 ▸ AllL.nil) s1_eq
noncomputable def E1 : Env := ⟨ty,cfOf cl,lpOf [(1,l1)],none⟩
structure p0X where
 m : List ((Int) × List ((Bool) × Int))
 a : List ((Int) × List ((Bool) × Int))
 b : List ((Int) × List ((Bool) × Int))
 i : Int
def p0 : Pt p0X where
 own := []
 t := ⟨[(3,.c (.arr (.pair (.int .u8) (.sl (.pair .bool (.int .u8)))))),(4,.c (.arr (.pair (.int .u8) (.sl (.pair .bool (.int .u8)))))),(5,.c (.arr (.pair (.int .u8) (.sl (.pair .bool (.int .u8)))))),(6,.c (.it .i64))],[]⟩
 to := fun v => ⟨v.1.1,v.1.2.1,v.1.2.2.1,v.1.2.2.2.1⟩
 fr := fun x => ((x.m,(x.a,(x.b,(x.i,())))),())
abbrev q0X := Unit
def q0 : Pt q0X where
 own := []
 t := ⟨[],[]⟩
 to := fun v => ()
 fr := fun x => ((),())
structure z0X where
 r : Bool
def z0 : Pt z0X where
 own := []
 t := ⟨[(2,.c (.bo))],[]⟩
 to := fun v => ⟨v.1.1⟩
 fr := fun x => ((x.r,()),())
noncomputable def s0 (x : p0X) : Option (p0X ⊕ (q0X ⊕ z0X)) := bif decide (x.i < (↑x.m.length : Int)) then bif inR x.i x.a.length then bif inR x.i x.m.length then bif inR x.i x.a.length || !!(↑(List.length (x.a[x.i.toNat]?.getD (0,[])).snd) : Int) != (↑(List.length (x.m[x.i.toNat]?.getD (0,[])).snd) : Int) then bif inR x.i x.m.length || !!(↑(List.length (x.a[x.i.toNat]?.getD (0,[])).snd) : Int) != (↑(List.length (x.m[x.i.toNat]?.getD (0,[])).snd) : Int) then bif inR x.i x.b.length || !!bif (↑(List.length (x.a[x.i.toNat]?.getD (0,[])).snd) : Int) != (↑(List.length (x.m[x.i.toNat]?.getD (0,[])).snd) : Int) then true else (x.a[x.i.toNat]?.getD (0,[])).fst != (x.m[x.i.toNat]?.getD (0,[])).fst then bif inR x.i x.m.length || !!bif (↑(List.length (x.a[x.i.toNat]?.getD (0,[])).snd) : Int) != (↑(List.length (x.m[x.i.toNat]?.getD (0,[])).snd) : Int) then true else (x.a[x.i.toNat]?.getD (0,[])).fst != (x.m[x.i.toNat]?.getD (0,[])).fst then bif bif bif (↑(List.length (x.a[x.i.toNat]?.getD (0,[])).snd) : Int) != (↑(List.length (x.m[x.i.toNat]?.getD (0,[])).snd) : Int) then true else (x.a[x.i.toNat]?.getD (0,[])).fst != (x.m[x.i.toNat]?.getD (0,[])).fst then true else (↑(List.length (x.b[x.i.toNat]?.getD (0,[])).snd) : Int) != (↑(List.length (x.m[x.i.toNat]?.getD (0,[])).snd) : Int) then some (Sum.inr (Sum.inr { r := false })) else bindO (iter s1 { m := x.m,a := x.a,b := x.b,i := x.i,k := 0 }) fun s => sumC s (fun y => bif inR y.i y.m.length then bif inR y.i y.m.length || !!(y.m[y.i.toNat]?.getD (0,[])).fst == 1 then bif inR y.i y.b.length then bif inR y.i y.m.length then bif !(bif (y.m[y.i.toNat]?.getD (0,[])).fst == 1 then true else (y.m[y.i.toNat]?.getD (0,[])).fst == 2) == ((y.b[y.i.toNat]?.getD (0,[])).fst != (y.m[y.i.toNat]?.getD (0,[])).fst) then some (Sum.inr (Sum.inr { r := false })) else some (Sum.inl { m := y.m,a := y.a,b := y.b,i := IntKind.i64.wrap (y.i + 1) }) else none else none else none else none) fun z => some (Sum.inr (Sum.inr { r := z.r })) else none else none else none else none else none else none
else some (Sum.inr (Sum.inl PUnit.unit))
theorem s0_eq (x : p0X) : exec E1 209 (C7.bodyAt 0) 1 (p0.R x) (p0.H x) (roundK2 0 p0 (.exit 0) q0 .ret z0) = s0 x := by kernel_rfl
noncomputable def l0 : LoopS := mkLoop2 0 p0 (.exit 0) q0 .ret z0 s0
theorem tl0 : topL (C7.bodyAt 0) 1 = [(1,C7.bodyAt 1)] := by kernel_rfl
theorem l0_ok  : LoopOkS Tryd.prog 209 none 0 (C7.bodyAt 0) l0 := mkLoop2_ok mixed (env_ok ty_ok cl_ok _) (by trivial) (by trivial) (fun _ => rfl) (fun _ => rfl) (fun _ => rfl) (tl0 ▸ (AllL.cons rfl l1_ok AllL.nil)) s0_eq
noncomputable def E0 : Env := ⟨ty,cfOf cl,lpOf [(0,l0),(1,l1)],none⟩
noncomputable def m (x : gX) : Option fY := bindO (M16.m { orders := x.orders,ops := x.ops }) fun y => bif y == 1 then bindO (M17.m PUnit.unit) fun y => some y else bindO (M18.m { orders := x.orders,ops := x.ops }) fun y => bindO (M28.m { m := y }) fun y_1 => bindO (M29.m { m := y }) fun y_2 => bindO (M28.m { m := y_1.fst }) fun y_3 => bindO (M26.m { s := y_3.fst,t := y }) fun y_4 => bindO (bif !!y_4 then M29.m { m := y_2.fst } else some ([],Nat.zero)) fun y_5 => bindO (bif !!y_4 then M26.m { s := y_5.fst,t := y } else some false) fun y_6 => bindO (bif !bif !y_4 then true else !y_6 then M28.m { m := y_2.fst } else some ([],Nat.zero)) fun y_7 => bindO (bif !bif !y_4 then true else !y_6 then M29.m { m := y_1.fst } else some ([],Nat.zero)) fun y_8 => bindO (bif !bif !y_4 then true else !y_6 then M26.m { s := y_7.fst,t := y_8.fst } else some false) fun y_9 => bif bif bif !y_4 then true else !y_6 then true else !y_9 then some false else bindO (M19.m { m := y_1.fst }) fun y_10 => bindO (M19.m { m := y }) fun y_11 => bindO (bif !y_10 != y_11 then M19.m { m := y_2.fst } else some (Int.ofNat 0)) fun y_12 => bindO (bif !y_10 != y_11 then M19.m { m := y } else some (Int.ofNat 0)) fun y_13 => bindO (bif !bif y_10 != y_11 then true else y_12 != y_13 then M23.m { m := y_1.fst } else some (Int.ofNat 0)) fun y_14 => bindO (bif !bif y_10 != y_11 then true else y_12 != y_13 then M23.m { m := y } else some (Int.ofNat 0)) fun y_15 => bindO (bif !bif bif y_10 != y_11 then true else y_12 != y_13 then true else y_14 != y_15 then M23.m { m := y_2.fst } else some (Int.ofNat 0)) fun y_16 => bindO (bif !bif bif y_10 != y_11 then true else y_12 != y_13 then true else y_14 != y_15 then M23.m { m := y } else some (Int.ofNat 0)) fun y_17 => bif bif bif bif y_10 != y_11 then true else y_12 != y_13 then true else y_14 != y_15 then true else y_16 != y_17 then some false else bindO (iter s0 { m := y,a := y_1.fst,b := y_2.fst,i := 0 }) fun s => sumC s (fun y => bindO (M17.m PUnit.unit) fun y => some y) fun z => some z.r
theorem m_eq (x : gX) : exec E0 209 C7 0 (initS 0 (g.A x)) (g.H x) (finish 0 ty [.tmp 2] f) = m x := by kernel_rfl
theorem tl : topL C7 0 = [(0,C7.bodyAt 0)] := by kernel_rfl
theorem known : Known Tryd.prog 7 g f m :=
 mk_known mixed (env_ok ty_ok cl_ok _) s7 rfl rfl tl (AllL.cons rfl l0_ok AllL.nil) (fun _ _ => ⟨rfl,rfl⟩) (fun _ _ => ⟨rfl,rfl⟩) m_eq
end M7
end Go.Proofs.YtcnlccpihknehaaDoor
