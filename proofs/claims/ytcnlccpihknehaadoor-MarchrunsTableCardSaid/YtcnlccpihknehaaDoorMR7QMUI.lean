/-
  The functions of march runs, run on symbolic values.
-/
import Derived.Test.YtcnlccpihknehaaDoorMR7QMw
set_option linter.all false
namespace Go.Proofs.YtcnlccpihknehaaDoor
open Go.Abs
set_option maxRecDepth 100000
namespace M12
structure gX where
 orders : List (Int)
 ops : List (List (Int))
 size : Int
 start : Int
 cls : Int
 cell : Int
 other : Int
def g : Sg gX where
 vs := [.agg [.arr (.int .u8),.arr (.sl (.int .u8))],.agg [.it .u8,.it .u16,.it .u8,.it .u8,.it .u8]]
 h := []
 to := fun a b => ⟨a.1.1,a.1.2.1,a.2.1.1,a.2.1.2.1,a.2.1.2.2.1,a.2.1.2.2.2.1,a.2.1.2.2.2.2.1⟩
 fa := fun x => ((x.orders,(x.ops,())),((x.size,(x.start,(x.cls,(x.cell,(x.other,()))))),()))
 fh := fun x => ()
abbrev fY := Bool
def f : Ft fY where
 ord := none
 sh := .c (.bo)
 h := []
 to := fun a b => (a)
 fv := fun y => y
 fh := fun y => ()
noncomputable def cl : List (FuncId × Con) := [(30,M30.con),(40,M40.con),(31,F11.con),(41,F22.con),(38,F14.con),(39,M39.con),(37,M37.con),(35,M35.con)]
theorem cl_ok : allCon Tryd.prog cl := ⟨M30.con_ok,M40.con_ok,F11.con_ok,F22.con_ok,F14.con_ok,M39.con_ok,M37.con_ok,M35.con_ok,trivial⟩
noncomputable def E2 : Env := ⟨ty,cfOf cl,fun _ => none,none⟩
structure p1X where
 m : List ((Int) × List ((Bool) × Int))
 l : List ((Int) × (Bool) × Bool)
 ok : Int
 at_ : Int
 c : Int
 class_ : Int
 all : Bool
 k : Int
 size : Int
 start : Int
 cls : Int
 cell : Int
 other : Int
 dcls : Int
 dcell : Int
 dother : Int
def p1 : Pt p1X where
 own := []
 t := ⟨[(3,.c (.ptr 1 0)),(5,.c (.arr (.pair (.int .u8) (.sl (.pair .bool (.int .u8)))))),(6,.c (.arr (.pair (.int .u8) (.pair .bool .bool)))),(8,.c (.ptr 2 0)),(9,.c (.it .i64)),(10,.c (.it .i64)),(11,.c (.it .i64)),(12,.c (.it .u8)),(13,.c (.bo)),(14,.c (.it .i64))],[.st [.junk,.junk] 1 0,.st [.it .u8,.it .u16,.it .u8,.it .u8,.it .u8] 1 0,.st [.it .u8,.it .i64,.it .i64] 1 0]⟩
 to := fun v => ⟨v.1.2.1,v.1.2.2.1,v.1.2.2.2.2.1,v.1.2.2.2.2.2.1,v.1.2.2.2.2.2.2.1,v.1.2.2.2.2.2.2.2.1,v.1.2.2.2.2.2.2.2.2.1,v.1.2.2.2.2.2.2.2.2.2.1,v.2.2.1.1,v.2.2.1.2.1,v.2.2.1.2.2.1,v.2.2.1.2.2.2.1,v.2.2.1.2.2.2.2.1,v.2.2.2.1.1,v.2.2.2.1.2.1,v.2.2.2.1.2.2.1⟩
 fr := fun x => (((),(x.m,(x.l,((),(x.ok,(x.at_,(x.c,(x.class_,(x.all,(x.k,())))))))))),(((),((),())),((x.size,(x.start,(x.cls,(x.cell,(x.other,()))))),((x.dcls,(x.dcell,(x.dother,()))),()))))
structure q1X where
 m : List ((Int) × List ((Bool) × Int))
 l : List ((Int) × (Bool) × Bool)
 ok : Int
 at_ : Int
 c : Int
 class_ : Int
 all : Bool
 size : Int
 start : Int
 cls : Int
 cell : Int
 other : Int
 dcls : Int
 dcell : Int
 dother : Int
def q1 : Pt q1X where
 own := []
 t := ⟨[(3,.c (.ptr 1 0)),(5,.c (.arr (.pair (.int .u8) (.sl (.pair .bool (.int .u8)))))),(6,.c (.arr (.pair (.int .u8) (.pair .bool .bool)))),(8,.c (.ptr 2 0)),(9,.c (.it .i64)),(10,.c (.it .i64)),(11,.c (.it .i64)),(12,.c (.it .u8)),(13,.c (.bo))],[.st [.junk,.junk] 1 0,.st [.it .u8,.it .u16,.it .u8,.it .u8,.it .u8] 1 0,.st [.it .u8,.it .i64,.it .i64] 1 0]⟩
 to := fun v => ⟨v.1.2.1,v.1.2.2.1,v.1.2.2.2.2.1,v.1.2.2.2.2.2.1,v.1.2.2.2.2.2.2.1,v.1.2.2.2.2.2.2.2.1,v.1.2.2.2.2.2.2.2.2.1,v.2.2.1.1,v.2.2.1.2.1,v.2.2.1.2.2.1,v.2.2.1.2.2.2.1,v.2.2.1.2.2.2.2.1,v.2.2.2.1.1,v.2.2.2.1.2.1,v.2.2.2.1.2.2.1⟩
 fr := fun x => (((),(x.m,(x.l,((),(x.ok,(x.at_,(x.c,(x.class_,(x.all,()))))))))),(((),((),())),((x.size,(x.start,(x.cls,(x.cell,(x.other,()))))),((x.dcls,(x.dcell,(x.dother,()))),()))))
structure z1X where
 r : Bool
def z1 : Pt z1X where
 own := []
 t := ⟨[(4,.c (.bo))],[]⟩
 to := fun v => ⟨v.1.1⟩
 fr := fun x => ((x.r,()),())
noncomputable def s1 (x : p1X) : Option (p1X ⊕ (q1X ⊕ z1X)) := bif decide (x.k < 2) then bindO (bif x.k == 1 then F22.m { c := x.class_ } else some false) fun y => bif bif x.k == 1 then y else false then some (Sum.inl { m := x.m,l := x.l,ok := x.ok,at_ := x.at_,c := x.c,class_ := x.class_,all := x.all,k := IntKind.i64.wrap (x.k + 1),size := x.size,start := x.start,cls := x.cls,cell := x.cell,other := x.other,dcls := x.dcls,dcell := x.dcell,dother := x.dother }) else bif inR x.at_ x.l.length then bif inR x.at_ x.l.length || !!(x.l[x.at_.toNat]?.getD (0,false,false)).fst != x.class_ then bif bif (x.l[x.at_.toNat]?.getD (0,false,false)).fst != x.class_ then true else !(x.l[x.at_.toNat]?.getD (0,false,false)).snd.fst == (x.k == 1) then some (Sum.inr (Sum.inr { r := false })) else bif inR x.at_ x.l.length || !x.all then bindO (bif bif x.ok == 1 then x.dcls == x.class_ else false then F22.m { c := x.class_ } else some false) fun y => bif bif bif x.ok == 1 then x.dcls == x.class_ else false then bif y then true else decide (x.dcell > x.dother) == (x.k == 1) else false then bindO (F14.m { size := x.size,start := x.start,cls := x.cls,cell := x.cell,other := x.other }) fun y => bindO (M39.m { m := x.m,n := y,cls := x.dcls,cell := x.dcell,other := x.dother }) fun y => bif inR x.at_ x.l.length || !!y.snd != 0 then bif bif y.snd != 0 then true else !y.fst == (x.l[x.at_.toNat]?.getD (0,false,false)).snd.snd then some (Sum.inr (Sum.inr { r := false })) else some (Sum.inl { m := x.m,l := x.l,ok := x.ok,at_ := IntKind.i64.wrap (x.at_ + 1),c := x.c,class_ := x.class_,all := bif x.all then (x.l[x.at_.toNat]?.getD (0,false,false)).snd.snd else false,k := IntKind.i64.wrap (x.k + 1),size := x.size,start := x.start,cls := x.cls,cell := x.cell,other := x.other,dcls := x.dcls,dcell := x.dcell,dother := x.dother }) else none else some (Sum.inl { m := x.m,l := x.l,ok := x.ok,at_ := IntKind.i64.wrap (x.at_ + 1),c := x.c,class_ := x.class_,all := bif x.all then (x.l[x.at_.toNat]?.getD (0,false,false)).snd.snd else false,k := IntKind.i64.wrap (x.k + 1),size := x.size,start := x.start,cls := x.cls,cell := x.cell,other := x.other,dcls := x.dcls,dcell := x.dcell,dother := x.dother }) else none else none else none
else
 some
   (Sum.inr
     (Sum.inl
       { m := x.m,l := x.l,ok := x.ok,at_ := x.at_,c := x.c,class_ := x.class_,all := x.all,size := x.size,start := x.start,cls := x.cls,cell := x.cell,
         other := x.other,dcls := x.dcls,dcell := x.dcell,dother := x.dother }))
theorem s1_eq (x : p1X) : exec E2 152 (C12.bodyAt 1) 2 (p1.R x) (p1.H x) (roundK2 0 p1 (.exit 2) q1 .ret z1) = s1 x := by kernel_rfl
noncomputable def l1 : LoopS := mkLoop2 0 p1 (.exit 2) q1 .ret z1 s1
theorem tl1 : topL (C12.bodyAt 1) 2 = [] := by kernel_rfl
theorem l1_ok  : LoopOkS Tryd.prog 152 none 0 (C12.bodyAt 1) l1 := mkLoop2_ok mixed (env_ok ty_ok cl_ok _) (by trivial) (by trivial) (fun _ => rfl) (fun _ => rfl) (fun _ => rfl) (tl1 ▸ AllL.nil) s1_eq
noncomputable def E1 : Env := ⟨ty,cfOf cl,lpOf [(1,l1)],none⟩
structure p0X where
 m : List ((Int) × List ((Bool) × Int))
 l : List ((Int) × (Bool) × Bool)
 ok : Int
 at_ : Int
 c : Int
 size : Int
 start : Int
 cls : Int
 cell : Int
 other : Int
 dcls : Int
 dcell : Int
 dother : Int
def p0 : Pt p0X where
 own := []
 t := ⟨[(3,.c (.ptr 1 0)),(5,.c (.arr (.pair (.int .u8) (.sl (.pair .bool (.int .u8)))))),(6,.c (.arr (.pair (.int .u8) (.pair .bool .bool)))),(8,.c (.ptr 2 0)),(9,.c (.it .i64)),(10,.c (.it .i64)),(11,.c (.it .i64))],[.st [.junk,.junk] 1 0,.st [.it .u8,.it .u16,.it .u8,.it .u8,.it .u8] 1 0,.st [.it .u8,.it .i64,.it .i64] 1 0]⟩
 to := fun v => ⟨v.1.2.1,v.1.2.2.1,v.1.2.2.2.2.1,v.1.2.2.2.2.2.1,v.1.2.2.2.2.2.2.1,v.2.2.1.1,v.2.2.1.2.1,v.2.2.1.2.2.1,v.2.2.1.2.2.2.1,v.2.2.1.2.2.2.2.1,v.2.2.2.1.1,v.2.2.2.1.2.1,v.2.2.2.1.2.2.1⟩
 fr := fun x => (((),(x.m,(x.l,((),(x.ok,(x.at_,(x.c,()))))))),(((),((),())),((x.size,(x.start,(x.cls,(x.cell,(x.other,()))))),((x.dcls,(x.dcell,(x.dother,()))),()))))
structure q0X where
 m : List ((Int) × List ((Bool) × Int))
def q0 : Pt q0X where
 own := []
 t := ⟨[(5,.c (.arr (.pair (.int .u8) (.sl (.pair .bool (.int .u8))))))],[]⟩
 to := fun v => ⟨v.1.1⟩
 fr := fun x => ((x.m,()),())
structure z0X where
 r : Bool
def z0 : Pt z0X where
 own := []
 t := ⟨[(4,.c (.bo))],[]⟩
 to := fun v => ⟨v.1.1⟩
 fr := fun x => ((x.r,()),())
noncomputable def s0 (x : p0X) : Option (p0X ⊕ (q0X ⊕ z0X)) := bif decide (x.c < 19) then bindO (iter s1 { m := x.m,l := x.l,ok := x.ok,at_ := x.at_,c := x.c,class_ := IntKind.u8.wrap x.c,all := true,k := 0,size := x.size,start := x.start,cls := x.cls,cell := x.cell,other := x.other,dcls := x.dcls,dcell := x.dcell,dother := x.dother }) fun s => sumC s (fun y => bindO (M37.m { m := y.m,c := y.class_ }) fun y_1 => bif bif y_1.snd != 0 then true else !y_1.fst == y.all then some (Sum.inr (Sum.inr { r := false })) else some (Sum.inl { m := y.m,l := y.l,ok := y.ok,at_ := y.at_,c := IntKind.i64.wrap (y.c + 1),size := y.size,start := y.start,cls := y.cls,cell := y.cell,other := y.other,dcls := y.dcls,dcell := y.dcell,dother := y.dother })) fun z => some (Sum.inr (Sum.inr { r := z.r }))
else some (Sum.inr (Sum.inl { m := x.m }))
theorem s0_eq (x : p0X) : exec E1 152 (C12.bodyAt 0) 1 (p0.R x) (p0.H x) (roundK2 0 p0 (.exit 0) q0 .ret z0) = s0 x := by kernel_rfl
noncomputable def l0 : LoopS := mkLoop2 0 p0 (.exit 0) q0 .ret z0 s0
theorem tl0 : topL (C12.bodyAt 0) 1 = [(1,C12.bodyAt 1)] := by kernel_rfl
theorem l0_ok  : LoopOkS Tryd.prog 152 none 0 (C12.bodyAt 0) l0 := mkLoop2_ok mixed (env_ok ty_ok cl_ok _) (by trivial) (by trivial) (fun _ => rfl) (fun _ => rfl) (fun _ => rfl) (tl0 ▸ (AllL.cons rfl l1_ok AllL.nil)) s0_eq
noncomputable def E0 : Env := ⟨ty,cfOf cl,lpOf [(0,l0),(1,l1)],none⟩
noncomputable def m (x : gX) : Option fY := bindO (M30.m { orders := x.orders,ops := x.ops }) fun y => bindO (M40.m { m := y }) fun y_1 => bindO (F11.m { size := x.size,start := x.start,cls := x.cls,cell := x.cell,other := x.other }) fun y_2 => bif bif bif y_1.snd.snd != 0 then true else (↑y_1.fst.length : Int) != 32 then true else (↑y_1.snd.fst : Int) != 32 then some false else bindO (iter s0 { m := y,l := y_1.fst,ok := y_2.snd.snd.snd,at_ := 0,c := 0,size := x.size,start := x.start,cls := x.cls,cell := x.cell,other := x.other,dcls := y_2.fst,dcell := y_2.snd.fst,dother := y_2.snd.snd.fst }) fun s => sumC s (fun y => bindO (M37.m { m := y.m,c := 19 }) fun y => bindO (bif y.snd == 1 then M35.m PUnit.unit else some false) fun y_3 => some (bif y.snd == 1 then y_3 else false)) fun z => some z.r
theorem m_eq (x : gX) : exec E0 152 C12 0 (initS 0 (g.A x)) (g.H x) (finish 0 ty [.tmp 4] f) = m x := by kernel_rfl
theorem tl : topL C12 0 = [(0,C12.bodyAt 0)] := by kernel_rfl
theorem known : Known Tryd.prog 12 g f m :=
 mk_known mixed (env_ok ty_ok cl_ok _) s12 rfl rfl tl (AllL.cons rfl l0_ok AllL.nil) (fun _ _ => ⟨rfl,rfl⟩) (fun _ _ => ⟨rfl,rfl⟩) m_eq
end M12
end Go.Proofs.YtcnlccpihknehaaDoor
