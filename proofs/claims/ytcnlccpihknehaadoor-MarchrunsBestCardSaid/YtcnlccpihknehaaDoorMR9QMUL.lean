/-
  The functions of march runs, run on symbolic values.
-/
import Derived.Test.YtcnlccpihknehaaDoorMR9QMw
set_option linter.all false
namespace Go.Proofs.YtcnlccpihknehaaDoor
open Go.Abs
set_option maxRecDepth 100000
namespace M9
structure gX where
 l : List ((List (Int)) × List (List (Int)))
 which : Int
 want : List (Int)
def g : Sg gX where
 vs := [.c (.arr (.pair (.sl (.int .u8)) (.sl (.sl (.int .u8))))),.c (.it .u8),.c (.arr (.int .u8))]
 h := []
 to := fun a b => ⟨a.1,a.2.1,a.2.2.1⟩
 fa := fun x => (x.l,(x.which,(x.want,())))
 fh := fun x => ()
abbrev fY := Bool
def f : Ft fY where
 ord := none
 sh := .c (.bo)
 h := []
 to := fun a b => (a)
 fv := fun y => y
 fh := fun y => ()
noncomputable def cl : List (FuncId × Con) := [(30,M30.con),(36,M36.con'),(19,M19.con),(37,M37.con),(23,M23.con),(35,M35.con)]
theorem cl_ok : allCon Tryd.prog cl := ⟨M30.con_ok,M36.con_ok',M19.con_ok,M37.con_ok,M23.con_ok,M35.con_ok,trivial⟩
noncomputable def E4 : Env := ⟨ty,cfOf cl,fun _ => none,none⟩
structure p3X where
 all_lo : Nat
 all_len : Nat
 classes_lo : Nat
 classes_len : Nat
 best : Int
 e : Int
 found : Int
 i : Int
 good : Bool
 k : Int
 all : List (List ((Int) × List ((Bool) × Int)))
 cls : List (Int)
def p3 : Pt p3X where
 own := []
 t := ⟨[(7,.c (.sl 0 0 1)),(10,.c (.sl 1 0 1)),(13,.c (.it .i64)),(14,.c (.it .i64)),(15,.c (.it .i64)),(16,.c (.it .i64)),(17,.c (.bo)),(18,.c (.it .i64))],[.arr (.sl (.pair (.int .u8) (.sl (.pair .bool (.int .u8))))) 0,.arr (.int .u8) 0]⟩
 to := fun v => ⟨v.1.1.1,v.1.1.2,v.1.2.1.1,v.1.2.1.2,v.1.2.2.1,v.1.2.2.2.1,v.1.2.2.2.2.1,v.1.2.2.2.2.2.1,v.1.2.2.2.2.2.2.1,v.1.2.2.2.2.2.2.2.1,v.2.1,v.2.2.1⟩
 fr := fun x => (((x.all_lo,x.all_len),((x.classes_lo,x.classes_len),(x.best,(x.e,(x.found,(x.i,(x.good,(x.k,())))))))),(x.all,(x.cls,())))
structure q3X where
 all_lo : Nat
 all_len : Nat
 classes_lo : Nat
 classes_len : Nat
 best : Int
 e : Int
 found : Int
 i : Int
 good : Bool
 all : List (List ((Int) × List ((Bool) × Int)))
 cls : List (Int)
def q3 : Pt q3X where
 own := []
 t := ⟨[(7,.c (.sl 0 0 1)),(10,.c (.sl 1 0 1)),(13,.c (.it .i64)),(14,.c (.it .i64)),(15,.c (.it .i64)),(16,.c (.it .i64)),(17,.c (.bo))],[.arr (.sl (.pair (.int .u8) (.sl (.pair .bool (.int .u8))))) 0,.arr (.int .u8) 0]⟩
 to := fun v => ⟨v.1.1.1,v.1.1.2,v.1.2.1.1,v.1.2.1.2,v.1.2.2.1,v.1.2.2.2.1,v.1.2.2.2.2.1,v.1.2.2.2.2.2.1,v.1.2.2.2.2.2.2.1,v.2.1,v.2.2.1⟩
 fr := fun x => (((x.all_lo,x.all_len),((x.classes_lo,x.classes_len),(x.best,(x.e,(x.found,(x.i,(x.good,()))))))),(x.all,(x.cls,())))
noncomputable def s3 (x : p3X) : Option (p3X ⊕ q3X) := bif bif decide (x.k < (↑x.classes_len : Int)) then x.good else false then bif inR x.i x.all_len then bif decide (x.all_lo + x.i.toNat < x.all.length) then bif inR x.k x.classes_len then bif decide (x.classes_lo + x.k.toNat < x.cls.length) then bindO (M37.m { m := x.all[x.all_lo + x.i.toNat]?.getD [],c := x.cls[x.classes_lo + x.k.toNat]?.getD 0 }) fun y => some (Sum.inl { all_lo := x.all_lo,all_len := x.all_len,classes_lo := x.classes_lo,classes_len := x.classes_len,best := x.best,e := x.e,found := x.found,i := x.i,good := bif y.fst then y.snd == 0 else false,k := IntKind.i64.wrap (x.k + 1),all := x.all,cls := x.cls }) else none else none else none else none
else
 some
   (Sum.inr
     { all_lo := x.all_lo,all_len := x.all_len,classes_lo := x.classes_lo,classes_len := x.classes_len,best := x.best,e := x.e,found := x.found,i := x.i,good := x.good,
       all := x.all,cls := x.cls })
theorem s3_eq (x : p3X) : exec E4 160 (C9.bodyAt 3) 4 (p3.R x) (p3.H x) (roundK 0 p3 (.exit 6) q3) = s3 x := by kernel_rfl
noncomputable def l3 : LoopS := mkLoop 0 p3 (.exit 6) q3 s3
theorem tl3 : topL (C9.bodyAt 3) 4 = [] := by kernel_rfl
theorem l3_ok  : LoopOkS Tryd.prog 160 none 0 (C9.bodyAt 3) l3 := mkLoop_ok mixed (env_ok ty_ok cl_ok _) (by trivial) (fun _ => rfl) (fun _ => rfl) (tl3 ▸ AllL.nil) s3_eq
noncomputable def E3 : Env := ⟨ty,cfOf cl,lpOf [(3,l3)],none⟩
structure p2X where
 all_lo : Nat
 all_len : Nat
 classes_lo : Nat
 classes_len : Nat
 best : Int
 e : Int
 found : Int
 i : Int
 all : List (List ((Int) × List ((Bool) × Int)))
 cls : List (Int)
def p2 : Pt p2X where
 own := []
 t := ⟨[(7,.c (.sl 0 0 1)),(10,.c (.sl 1 0 1)),(13,.c (.it .i64)),(14,.c (.it .i64)),(15,.c (.it .i64)),(16,.c (.it .i64))],[.arr (.sl (.pair (.int .u8) (.sl (.pair .bool (.int .u8))))) 0,.arr (.int .u8) 0]⟩
 to := fun v => ⟨v.1.1.1,v.1.1.2,v.1.2.1.1,v.1.2.1.2,v.1.2.2.1,v.1.2.2.2.1,v.1.2.2.2.2.1,v.1.2.2.2.2.2.1,v.2.1,v.2.2.1⟩
 fr := fun x => (((x.all_lo,x.all_len),((x.classes_lo,x.classes_len),(x.best,(x.e,(x.found,(x.i,())))))),(x.all,(x.cls,())))
structure q2X where
 best : Int
 e : Int
 found : Int
def q2 : Pt q2X where
 own := []
 t := ⟨[(13,.c (.it .i64)),(14,.c (.it .i64)),(15,.c (.it .i64))],[]⟩
 to := fun v => ⟨v.1.1,v.1.2.1,v.1.2.2.1⟩
 fr := fun x => ((x.best,(x.e,(x.found,()))),())
noncomputable def s2 (x : p2X) : Option (p2X ⊕ q2X) := bif decide (x.i < (↑x.all_len : Int)) then bif inR x.i x.all_len then bif decide (x.all_lo + x.i.toNat < x.all.length) then bindO (M19.m { m := x.all[x.all_lo + x.i.toNat]?.getD [] }) fun y => bindO (iter s3 { all_lo := x.all_lo,all_len := x.all_len,classes_lo := x.classes_lo,classes_len := x.classes_len,best := x.best,e := x.e,found := x.found,i := x.i,good := y == 0,k := 0,all := x.all,cls := x.cls }) fun y => bif inR y.i y.all_len || !(y.good && !decide (y.found < 0)) then bif decide (y.all_lo + y.i.toNat < y.all.length) || !(y.good && !decide (y.found < 0)) then bindO (bif y.good && !decide (y.found < 0) then M23.m { m := y.all[y.all_lo + y.i.toNat]?.getD [] } else some (Int.ofNat 0)) fun y_1 => bif inR y.found y.all_len || !(y.good && !decide (y.found < 0)) then bif decide (y.all_lo + y.found.toNat < y.all.length) || !(y.good && !decide (y.found < 0)) then bindO (bif y.good && !decide (y.found < 0) then M23.m { m := y.all[y.all_lo + y.found.toNat]?.getD [] } else some (Int.ofNat 0)) fun y_2 => some (Sum.inl { all_lo := y.all_lo,all_len := y.all_len,classes_lo := y.classes_lo,classes_len := y.classes_len,best := y.best,e := y.e,found := bif bif y.good then bif decide (y.found < 0) then true else decide (y_1 < y_2) else false then y.i else y.found,i := IntKind.i64.wrap (y.i + 1),all := y.all,cls := y.cls }) else none else none else none else none else none else none
else some (Sum.inr { best := x.best,e := x.e,found := x.found })
theorem s2_eq (x : p2X) : exec E3 160 (C9.bodyAt 2) 3 (p2.R x) (p2.H x) (roundK 0 p2 (.exit 4) q2) = s2 x := by kernel_rfl
noncomputable def l2 : LoopS := mkLoop 0 p2 (.exit 4) q2 s2
theorem tl2 : topL (C9.bodyAt 2) 3 = [(3,C9.bodyAt 3)] := by kernel_rfl
theorem l2_ok  : LoopOkS Tryd.prog 160 none 0 (C9.bodyAt 2) l2 := mkLoop_ok mixed (env_ok ty_ok cl_ok _) (by trivial) (fun _ => rfl) (fun _ => rfl) (tl2 ▸ (AllL.cons rfl l3_ok AllL.nil)) s2_eq
noncomputable def E2 : Env := ⟨ty,cfOf cl,lpOf [(2,l2),(3,l3)],none⟩
structure p1X where
 want : List (Int)
 all_lo : Nat
 all_len : Nat
 classes_lo : Nat
 classes_len : Nat
 bad : Bool
 i : Int
 all : List (List ((Int) × List ((Bool) × Int)))
 cls : List (Int)
def p1 : Pt p1X where
 own := [.reg 10 (.int .u8)]
 t := ⟨[(2,.c (.arr (.int .u8))),(7,.c (.sl 0 0 1)),(10,.c (.sl 1 0 1)),(11,.c (.bo)),(12,.c (.it .i64))],[.arr (.sl (.pair (.int .u8) (.sl (.pair .bool (.int .u8))))) 0,.arr (.int .u8) 0]⟩
 to := fun v => ⟨v.1.1,v.1.2.1.1,v.1.2.1.2,v.1.2.2.1.1,v.1.2.2.1.2,v.1.2.2.2.1,v.1.2.2.2.2.1,v.2.1,v.2.2.1⟩
 fr := fun x => ((x.want,((x.all_lo,x.all_len),((x.classes_lo,x.classes_len),(x.bad,(x.i,()))))),(x.all,(x.cls,())))
structure q1X where
 all_lo : Nat
 all_len : Nat
 classes_lo : Nat
 classes_len : Nat
 bad : Bool
 all : List (List ((Int) × List ((Bool) × Int)))
 cls : List (Int)
def q1 : Pt q1X where
 own := []
 t := ⟨[(7,.c (.sl 0 0 1)),(10,.c (.sl 1 0 1)),(11,.c (.bo))],[.arr (.sl (.pair (.int .u8) (.sl (.pair .bool (.int .u8))))) 0,.arr (.int .u8) 0]⟩
 to := fun v => ⟨v.1.1.1,v.1.1.2,v.1.2.1.1,v.1.2.1.2,v.1.2.2.1,v.2.1,v.2.2.1⟩
 fr := fun x => (((x.all_lo,x.all_len),((x.classes_lo,x.classes_len),(x.bad,()))),(x.all,(x.cls,())))
noncomputable def s1 (x : p1X) : Option (p1X ⊕ q1X) := bif decide (x.i < (↑x.want.length : Int)) then bif inR x.i x.want.length then bif eqN x.classes_lo 0 && eqN x.cls.length x.classes_len && roomB (x.classes_len + 1) 1 then bif inR x.i x.want.length || !!x.bad then some (Sum.inl { want := x.want,all_lo := x.all_lo,all_len := x.all_len,classes_lo := 0,classes_len := x.classes_len + 1,bad := bif x.bad then true else Int.tmod (x.want[x.i.toNat]?.getD 0) 20 == 19,i := IntKind.i64.wrap (x.i + 1),all := x.all,cls := x.cls ++ [Int.tmod (x.want[x.i.toNat]?.getD 0) 20] }) else none else none else none
else some (Sum.inr { all_lo := x.all_lo,all_len := x.all_len,classes_lo := x.classes_lo,classes_len := x.classes_len,bad := x.bad,all := x.all,cls := x.cls })
theorem s1_eq (x : p1X) : exec E2 160 (C9.bodyAt 1) 2 (p1.R x) (p1.H x) (roundK 0 p1 (.exit 2) q1) = s1 x := by kernel_rfl
noncomputable def l1 : LoopS := mkLoop 0 p1 (.exit 2) q1 s1
theorem tl1 : topL (C9.bodyAt 1) 2 = [] := by kernel_rfl
theorem l1_ok  : LoopOkS Tryd.prog 160 none 0 (C9.bodyAt 1) l1 := mkLoop_ok mixed (env_ok ty_ok cl_ok _) (by trivial) (fun _ => rfl) (fun _ => rfl) (tl1 ▸ AllL.nil) s1_eq
noncomputable def E1 : Env := ⟨ty,cfOf cl,lpOf [(1,l1),(2,l2),(3,l3)],none⟩
structure p0X where
 l : List ((List (Int)) × List (List (Int)))
 which : Int
 want : List (Int)
 all_lo : Nat
 all_len : Nat
 i : Int
 all : List (List ((Int) × List ((Bool) × Int)))
def p0 : Pt p0X where
 own := [.reg 7 (.sl (.pair (.int .u8) (.sl (.pair .bool (.int .u8)))))]
 t := ⟨[(0,.c (.arr (.pair (.sl (.int .u8)) (.sl (.sl (.int .u8)))))),(1,.c (.it .u8)),(2,.c (.arr (.int .u8))),(7,.c (.sl 0 0 1)),(8,.c (.it .i64))],[.arr (.sl (.pair (.int .u8) (.sl (.pair .bool (.int .u8))))) 0]⟩
 to := fun v => ⟨v.1.1,v.1.2.1,v.1.2.2.1,v.1.2.2.2.1.1,v.1.2.2.2.1.2,v.1.2.2.2.2.1,v.2.1⟩
 fr := fun x => ((x.l,(x.which,(x.want,((x.all_lo,x.all_len),(x.i,()))))),(x.all,()))
structure q0X where
 want : List (Int)
 all_lo : Nat
 all_len : Nat
 all : List (List ((Int) × List ((Bool) × Int)))
def q0 : Pt q0X where
 own := []
 t := ⟨[(2,.c (.arr (.int .u8))),(7,.c (.sl 0 0 1))],[.arr (.sl (.pair (.int .u8) (.sl (.pair .bool (.int .u8))))) 0]⟩
 to := fun v => ⟨v.1.1,v.1.2.1.1,v.1.2.1.2,v.2.1⟩
 fr := fun x => ((x.want,((x.all_lo,x.all_len),())),(x.all,()))
noncomputable def s0 (x : p0X) : Option (p0X ⊕ q0X) := bif decide (x.i < (↑x.l.length : Int)) then bif inR x.i x.l.length then bindO (M30.m { orders := (x.l[x.i.toNat]?.getD ([],[])).fst,ops := (x.l[x.i.toNat]?.getD ([],[])).snd }) fun y => bif x.i == IntKind.i64.wrap (x.which.tmod 8) then bif eqN x.all_lo 0 && eqN x.all.length x.all_len && roomB (x.all_len + 1) 24 then some (Sum.inl { l := x.l,which := x.which,want := x.want,all_lo := 0,all_len := x.all_len + 1,i := IntKind.i64.wrap (x.i + 1),all := x.all ++ [[(1,[(false,0)])]] }) else none else bif eqN x.all_lo 0 && eqN x.all.length x.all_len && roomB (x.all_len + 1) 24 then some (Sum.inl { l := x.l,which := x.which,want := x.want,all_lo := 0,all_len := x.all_len + 1,i := IntKind.i64.wrap (x.i + 1),all := x.all ++ [y] }) else none else none
else some (Sum.inr { want := x.want,all_lo := x.all_lo,all_len := x.all_len,all := x.all })
theorem s0_eq (x : p0X) : exec E1 160 (C9.bodyAt 0) 1 (p0.R x) (p0.H x) (roundK 0 p0 (.exit 0) q0) = s0 x := by kernel_rfl
noncomputable def l0 : LoopS := mkLoop 0 p0 (.exit 0) q0 s0
theorem tl0 : topL (C9.bodyAt 0) 1 = [] := by kernel_rfl
theorem l0_ok  : LoopOkS Tryd.prog 160 none 0 (C9.bodyAt 0) l0 := mkLoop_ok mixed (env_ok ty_ok cl_ok _) (by trivial) (fun _ => rfl) (fun _ => rfl) (tl0 ▸ AllL.nil) s0_eq
noncomputable def E0 : Env := ⟨ty,cfOf cl,lpOf [(0,l0),(1,l1),(2,l2),(3,l3)],none⟩
noncomputable def m (x : gX) : Option fY := bif bif decide ((↑x.l.length : Int) > 4) then true else decide ((↑x.want.length : Int) > 5) then bindO (M35.m PUnit.unit) fun y => some y
else
 bindO (iter s0 { l := x.l,which := x.which,want := x.want,all_lo := 0,all_len := 0,i := 0,all := [] }) fun y =>
   bindO (iter s1 { want := y.want,all_lo := y.all_lo,all_len := y.all_len,classes_lo := 0,classes_len := 0,bad := false,i := 0,all := y.all,cls := [] }) fun y =>
     bindO
       (bif leB (y.all_lo + y.all_len) y.all.length && (leB (y.classes_lo + y.classes_len) y.cls.length && true) then
         M36.m { l := List.take y.all_len (List.drop y.all_lo y.all),want := List.take y.classes_len (List.drop y.classes_lo y.cls) }
       else none)
       fun y_1 =>
       bif y.bad then
         bindO (bif bif y_1.snd == 1 then y_1.fst == 0 else false then M35.m PUnit.unit else some false) fun y =>
           some (bif bif y_1.snd == 1 then y_1.fst == 0 else false then y else false)
       else
         bindO
           (iter s2
             { all_lo := y.all_lo,all_len := y.all_len,classes_lo := y.classes_lo,classes_len := y.classes_len,best := y_1.fst,e := y_1.snd,found := -1,i := 0,
               all := y.all,cls := y.cls })
           fun y =>
           bindO (bif bif y.e == 0 then y.best == y.found else false then M35.m PUnit.unit else some false) fun y_2 =>
             some (bif bif y.e == 0 then y.best == y.found else false then y_2 else false)
theorem m_eq (x : gX) : exec E0 160 C9 0 (initS 0 (g.A x)) (g.H x) (finish 0 ty [.tmp 6] f) = m x := by kernel_rfl
theorem tl : topL C9 0 = [(0,C9.bodyAt 0),(1,C9.bodyAt 1),(2,C9.bodyAt 2)] := by kernel_rfl
theorem known : Known Tryd.prog 9 g f m :=
 mk_known mixed (env_ok ty_ok cl_ok _) s9 rfl rfl tl (AllL.cons rfl l0_ok (AllL.cons rfl l1_ok (AllL.cons rfl l2_ok AllL.nil))) (fun _ _ => ⟨rfl,rfl⟩) (fun _ _ => ⟨rfl,rfl⟩) m_eq
end M9
end Go.Proofs.YtcnlccpihknehaaDoor
