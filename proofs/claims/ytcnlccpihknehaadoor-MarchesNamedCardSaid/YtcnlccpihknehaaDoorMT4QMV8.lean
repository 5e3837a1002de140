/-
  The functions of marches, run on symbolic values.
-/
import Derived.Test.YtcnlccpihknehaaDoorMT4QMx
set_option linter.all false
namespace Go.Proofs.YtcnlccpihknehaaDoor
open Go.Abs
set_option maxRecDepth 100000
namespace M4
structure gX where
 name : List UInt8
def g : Sg gX where
 vs := [.c (.sg)]
 h := []
 to := fun a b => ⟨a.1⟩
 fa := fun x => (x.name,())
 fh := fun x => ()
abbrev fY := Bool
def f : Ft fY where
 ord := none
 sh := .c (.bo)
 h := []
 to := fun a b => (a)
 fv := fun y => y
 fh := fun y => ()
noncomputable def cl : List (FuncId × Con) := [(17,M17.con),(21,M21.con),(22,M22.con),(19,M19.con),(23,M23.con)]
theorem cl_ok : allCon Tryd.prog cl := ⟨M17.con_ok,M21.con_ok,M22.con_ok,M19.con_ok,M23.con_ok,trivial⟩
noncomputable def E1 : Env := ⟨ty,cfOf cl,fun _ => none,none⟩
structure p0X where
 name : List UInt8
 l : List (List UInt8)
 lens : List (Int)
 known : Bool
 i : Int
def p0 : Pt p0X where
 own := []
 t := ⟨[(0,.c (.sg)),(3,.c (.arr .str)),(4,.c (.arr (.int .i64))),(5,.c (.bo)),(6,.c (.it .i64))],[]⟩
 to := fun v => ⟨v.1.1,v.1.2.1,v.1.2.2.1,v.1.2.2.2.1,v.1.2.2.2.2.1⟩
 fr := fun x => ((x.name,(x.l,(x.lens,(x.known,(x.i,()))))),())
structure q0X where
 name : List UInt8
 known : Bool
def q0 : Pt q0X where
 own := []
 t := ⟨[(0,.c (.sg)),(5,.c (.bo))],[]⟩
 to := fun v => ⟨v.1.1,v.1.2.1⟩
 fr := fun x => ((x.name,(x.known,())),())
structure z0X where
 r : Bool
def z0 : Pt z0X where
 own := []
 t := ⟨[(2,.c (.bo))],[]⟩
 to := fun v => ⟨v.1.1⟩
 fr := fun x => ((x.r,()),())
noncomputable def s0 (x : p0X) : Option (p0X ⊕ (q0X ⊕ z0X)) := bif decide (x.i < 7) then bif inR x.i x.l.length then bindO (M22.m { s := x.l[x.i.toNat]?.getD [] }) fun y => bif inR x.i x.l.length || !!x.known then bindO (bif !!y.snd then M19.m { m := y.fst } else some (Int.ofNat 0)) fun y_1 => bindO (bif !bif !y.snd then true else y_1 != 0 then M23.m { m := y.fst } else some (Int.ofNat 0)) fun y_2 => bif inR x.i x.lens.length || !!bif !y.snd then true else y_1 != 0 then bif inR 0 y.fst.length || !!bif bif bif !y.snd then true else y_1 != 0 then true else y_2 != x.lens[x.i.toNat]?.getD 0 then true else (↑y.fst.length : Int) == 0 then bif inR 0 y.fst.length || !!bif bif bif bif !y.snd then true else y_1 != 0 then true else y_2 != x.lens[x.i.toNat]?.getD 0 then true else (↑y.fst.length : Int) == 0 then true else (y.fst[0]?.getD (0,[])).fst != 0 then bif inR 0 y.fst.length || !!bif bif bif bif bif !y.snd then true else y_1 != 0 then true else y_2 != x.lens[x.i.toNat]?.getD 0 then true else (↑y.fst.length : Int) == 0 then true else (y.fst[0]?.getD (0,[])).fst != 0 then true else (↑(List.length (y.fst[0]?.getD (0,[])).snd) : Int) != 1 then bif inR 0 (List.length (y.fst[0]?.getD (0,[])).snd) || !!bif bif bif bif bif !y.snd then true else y_1 != 0 then true else y_2 != x.lens[x.i.toNat]?.getD 0 then true else (↑y.fst.length : Int) == 0 then true else (y.fst[0]?.getD (0,[])).fst != 0 then true else (↑(List.length (y.fst[0]?.getD (0,[])).snd) : Int) != 1 then bif bif bif bif bif bif bif !y.snd then true else y_1 != 0 then true else y_2 != x.lens[x.i.toNat]?.getD 0 then true else (↑y.fst.length : Int) == 0 then true else (y.fst[0]?.getD (0,[])).fst != 0 then true else (↑(List.length (y.fst[0]?.getD (0,[])).snd) : Int) != 1 then true else !(((y.fst[0]?.getD (0,[])).snd[0]?.getD (false,0)).fst == true && (((y.fst[0]?.getD (0,[])).snd[0]?.getD (false,0)).snd == 0 && true)) == true then some (Sum.inr (Sum.inr { r := false })) else bif inR (IntKind.i64.wrap ((↑y.fst.length : Int) - 1)) y.fst.length then bif inR (IntKind.i64.wrap ((↑(List.length (y.fst[(IntKind.i64.wrap ((↑y.fst.length : Int) - 1)).toNat]?.getD (0,[])).snd) : Int) - 1)) (List.length (y.fst[(IntKind.i64.wrap ((↑y.fst.length : Int) - 1)).toNat]?.getD (0,[])).snd) then bif ((y.fst[(IntKind.i64.wrap ((↑y.fst.length : Int) - 1)).toNat]?.getD (0,[])).snd[(IntKind.i64.wrap ((↑(List.length (y.fst[(IntKind.i64.wrap ((↑y.fst.length : Int) - 1)).toNat]?.getD (0,[])).snd) : Int) - 1)).toNat]?.getD (false,0)).snd != 0 then some (Sum.inr (Sum.inr { r := false })) else some (Sum.inl { name := x.name,l := x.l,lens := x.lens,known := bif x.known then true else x.l[x.i.toNat]?.getD [] == x.name,i := IntKind.i64.wrap (x.i + 1) }) else none else none else none else none else none else none else none else none else none
else some (Sum.inr (Sum.inl { name := x.name,known := x.known }))
theorem s0_eq (x : p0X) : exec E1 122 (C4.bodyAt 0) 1 (p0.R x) (p0.H x) (roundK2 0 p0 (.exit 0) q0 .ret z0) = s0 x := by kernel_rfl
noncomputable def l0 : LoopS := mkLoop2 0 p0 (.exit 0) q0 .ret z0 s0
theorem tl0 : topL (C4.bodyAt 0) 1 = [] := by kernel_rfl
theorem l0_ok  : LoopOkS Tryd.prog 122 none 0 (C4.bodyAt 0) l0 := mkLoop2_ok mixed (env_ok ty_ok cl_ok _) (by trivial) (by trivial) (fun _ => rfl) (fun _ => rfl) (fun _ => rfl) (tl0 ▸ AllL.nil) s0_eq
noncomputable def E0 : Env := ⟨ty,cfOf cl,lpOf [(0,l0)],none⟩
noncomputable def m (x : gX) : Option fY := bif decide ((↑x.name.length : Int) > 100) then bindO (M17.m PUnit.unit) fun y => some y
else
 bindO (M21.m PUnit.unit) fun y =>
   bif (↑y.fst.length : Int) != 7 then some false
   else
     bindO (iter s0 { name := x.name,l := y.fst,lens := [5,6,6,8,10,15,17],known := false,i := 0 }) fun s =>
       sumC s
         (fun y =>
           bindO (M22.m { s := y.name }) fun y_1 =>
             bindO (bif bif y_1.snd == y.known then bif y_1.snd then true else (↑y_1.fst.length : Int) == 0 else false then M17.m PUnit.unit else some false) fun y_2 =>
               some (bif bif y_1.snd == y.known then bif y_1.snd then true else (↑y_1.fst.length : Int) == 0 else false then y_2 else false))
         fun z => some z.r
theorem m_eq (x : gX) : exec E0 122 C4 0 (initS 0 (g.A x)) (g.H x) (finish 0 ty [.tmp 2] f) = m x := by kernel_rfl
theorem tl : topL C4 0 = [(0,C4.bodyAt 0)] := by kernel_rfl
theorem known : Known Tryd.prog 4 g f m :=
 mk_known mixed (env_ok ty_ok cl_ok _) s4 rfl rfl tl (AllL.cons rfl l0_ok AllL.nil) (fun _ _ => ⟨rfl,rfl⟩) (fun _ _ => ⟨rfl,rfl⟩) m_eq
end M4
end Go.Proofs.YtcnlccpihknehaaDoor
