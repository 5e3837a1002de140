/-
  What the proof stands on.
-/
import Derived.Test.YtcnlccpihknehaaDoorMRAQMu
set_option linter.all false
namespace Go.Proofs.YtcnlccpihknehaaDoor
open Go.Abs
set_option maxRecDepth 100000
namespace F39c
structure gX where
 s_lo : Nat
 s_len : Nat
 s_cap : Nat
 ss : List (Int)
def g : Sg gX where
 vs := [.c (.slc 0 0 1),.c (.fn 83)]
 h := [.arr (.int .u8) 0]
 to := fun a b => ⟨a.1.1,a.1.2.1,a.1.2.2,b.1⟩
 fa := fun x => ((x.s_lo,x.s_len,x.s_cap),((),()))
 fh := fun x => (x.ss,())
abbrev fY := Int × List (Int)
def f : Ft fY where
 ord := none
 sh := .c (.it .i64)
 h := [.arr (.int .u8) 0]
 to := fun a b => (a,b.1)
 fv := fun y => y.1
 fh := fun y => (y.2,())
def cl : List (FuncId × Con) := [(83,F36.con)]
theorem cl_ok : allCon Tryd.prog cl := ⟨F36.con_ok,trivial⟩
def E1 : Env := ⟨ty,cfOf cl,fun _ => none,none⟩
structure p0X where
 s_lo : Nat
 s_len : Nat
 s_cap : Nat
 n : Int
 i : Int
 ss : List (Int)
def p0 : Pt p0X where
 own := []
 t := ⟨[(0,.c (.slc 0 0 1)),(1,.c (.fn 83)),(7,.c (.it .i64)),(8,.c (.it .i64))],[.arr (.int .u8) 0]⟩
 to := fun v => ⟨v.1.1.1,v.1.1.2.1,v.1.1.2.2,v.1.2.2.1,v.1.2.2.2.1,v.2.1⟩
 fr := fun x => (((x.s_lo,x.s_len,x.s_cap),((),(x.n,(x.i,())))),(x.ss,()))
structure q0X where
 ss : List (Int)
def q0 : Pt q0X where
 own := []
 t := ⟨[],[.arr (.int .u8) 0]⟩
 to := fun v => ⟨v.2.1⟩
 fr := fun x => ((),(x.ss,()))
structure z0X where
 r : Int
 ss : List (Int)
def z0 : Pt z0X where
 own := []
 t := ⟨[(4,.c (.it .i64))],[.arr (.int .u8) 0]⟩
 to := fun v => ⟨v.1.1,v.2.1⟩
 fr := fun x => ((x.r,()),(x.ss,()))
def s0 (x : p0X) : Option (p0X ⊕ (q0X ⊕ z0X)) := bif decide (x.i < x.n) then bif inR x.i x.s_len then bif decide (x.s_lo + x.i.toNat < x.ss.length) then bindO (F36.m { v := x.ss[x.s_lo + x.i.toNat]?.getD 0 }) fun y => bif y then some (Sum.inr (Sum.inr { r := x.i,ss := x.ss })) else some (Sum.inl { s_lo := x.s_lo,s_len := x.s_len,s_cap := x.s_cap,n := x.n,i := IntKind.i64.wrap (x.i + 1),ss := x.ss }) else none else none
else some (Sum.inr (Sum.inl { ss := x.ss }))
theorem s0_eq (x : p0X) : exec E1 19 (C98.bodyAt 0) 1 (p0.R x) (p0.H x) (roundK2 1 p0 (.exit 0) q0 .ret z0) = s0 x := by kernel_rfl
noncomputable def l0 : LoopS := mkLoop2 1 p0 (.exit 0) q0 .ret z0 s0
theorem tl0 : topL (C98.bodyAt 0) 1 = [] := by kernel_rfl
theorem l0_ok  : LoopOkS Tryd.prog 19 none 1 (C98.bodyAt 0) l0 := mkLoop2_ok mixed (env_ok ty_ok cl_ok _) (by trivial) (by trivial) (fun _ => rfl) (fun _ => rfl) (fun _ => rfl) (tl0 ▸ AllL.nil) s0_eq
noncomputable def E0 : Env := ⟨ty,cfOf cl,lpOf [(0,l0)],none⟩
noncomputable def m (x : gX) : Option fY := bindO (iter s0 { s_lo := x.s_lo,s_len := x.s_len,s_cap := x.s_cap,n := (↑x.s_len : Int),i := 0,ss := x.ss }) fun s => sumC s (fun y => some (-1,y.ss)) fun z => some (z.r,z.ss)
theorem m_eq (x : gX) : exec E0 19 C98 0 (initS 0 (g.A x)) (g.H x) (finish 1 ty [.tmp 4] f) = m x := by kernel_rfl
theorem tl : topL C98 0 = [(0,C98.bodyAt 0)] := by kernel_rfl
theorem known : Known Tryd.prog 98 g f m :=
 mk_known mixed (env_ok ty_ok cl_ok _) s98 rfl rfl tl (AllL.cons rfl l0_ok AllL.nil) (fun _ _ => ⟨rfl,rfl⟩) (fun _ _ => ⟨rfl,rfl⟩) m_eq
theorem hh {x : gX} {y : fY} (h : m x = some y) : f.H y = g.H x := by
 unfold m at h
 obtain ⟨r,h1,h2⟩ := bindO_some h
 have h3 := iter_keep (fun z => z.ss = x.ss) (fun r => match r with | .inl y => y.ss = x.ss | .inr z => z.ss = x.ss) (fun z r hz hr => by
   unfold s0 at hr
   rcases cond_some hr with ⟨_,hr⟩ | ⟨_,hr⟩
   · rcases cond_some hr with ⟨_,hr⟩ | ⟨_,hr⟩
     · rcases cond_some hr with ⟨_,hr⟩ | ⟨_,hr⟩
       · obtain ⟨b,_,hr⟩ := bindO_some hr
         rcases cond_some hr with ⟨_,hr⟩ | ⟨_,hr⟩ <;> (cases hr; exact hz)
       · cases hr
     · cases hr
   · cases hr; exact hz) rfl h1
 rcases sumC_some h2 with ⟨z,rfl,h4⟩ | ⟨z,rfl,h4⟩ <;> (cases h4; show [SO.arr (.int .u8) z.ss 0] = [SO.arr (.int .u8) x.ss 0]; rw [h3])
noncomputable def con : Con := conR g [.arg 0 0] f m default
theorem con_ok : ConOk Tryd.prog 98 con := conR_ok known (fun _ => rfl) (fun _ _ h => by exact hh h)
end F39c
namespace F35c
structure gX where
 s_lo : Nat
 s_len : Nat
 s_cap : Nat
 ss : List (Int)
def g : Sg gX where
 vs := [.c (.slc 0 0 1),.c (.fn 83)]
 h := [.arr (.int .u8) 0]
 to := fun a b => ⟨a.1.1,a.1.2.1,a.1.2.2,b.1⟩
 fa := fun x => ((x.s_lo,x.s_len,x.s_cap),((),()))
 fh := fun x => (x.ss,())
abbrev fY := Bool × List (Int)
def f : Ft fY where
 ord := none
 sh := .c (.bo)
 h := [.arr (.int .u8) 0]
 to := fun a b => (a,b.1)
 fv := fun y => y.1
 fh := fun y => (y.2,())
noncomputable def cl : List (FuncId × Con) := [(98,F39c.con)]
theorem cl_ok : allCon Tryd.prog cl := ⟨F39c.con_ok,trivial⟩
noncomputable def E0 : Env := ⟨ty,cfOf cl,fun _ => none,none⟩
noncomputable def m (x : gX) : Option fY := bindO (F39c.m { s_lo := x.s_lo,s_len := x.s_len,s_cap := x.s_cap,ss := x.ss }) fun y => some (decide (y.fst ≥ 0),x.ss)
theorem m_eq (x : gX) : exec E0 9 C82 0 (initS 0 (g.A x)) (g.H x) (finish 1 ty [.tmp 4] f) = m x := by kernel_rfl
theorem tl : topL C82 0 = [] := by kernel_rfl
theorem known : Known Tryd.prog 82 g f m :=
 mk_known mixed (env_ok ty_ok cl_ok _) s82 rfl rfl tl AllL.nil (fun _ _ => ⟨rfl,rfl⟩) (fun _ _ => ⟨rfl,rfl⟩) m_eq
theorem hh {x : gX} {y : fY} (h : m x = some y) : f.H y = g.H x := by
 unfold m at h
 obtain ⟨r,h1,h2⟩ := bindO_some h
 cases h2; rfl
noncomputable def con : Con := conR g [.arg 0 0] f m default
theorem con_ok : ConOk Tryd.prog 82 con := conR_ok known (fun _ => rfl) (fun _ _ h => by exact hh h)
end F35c
namespace F24c
structure gX where
 start_lo : Nat
 start_len : Nat
 start_cap : Nat
 d : List ((Int) × (Int) × Int)
 ss : List (Int)
def g : Sg gX where
 vs := [.c (.slc 0 0 1),.c (.arr (.pair (.int .u8) (.pair (.int .i64) (.int .i64))))]
 h := [.arr (.int .u8) 0]
 to := fun a b => ⟨a.1.1,a.1.2.1,a.1.2.2,a.2.1,b.1⟩
 fa := fun x => ((x.start_lo,x.start_len,x.start_cap),(x.d,()))
 fh := fun x => (x.ss,())
abbrev fY := Int × List (Int) × Int × Int × Int × Nat × Nat × Bool × List (Int)
def f : Ft fY where
 ord := some [0,2,1]
 sh := .tup [.inl (.ptr 1 0),.inl (.it .i64)]
 h := [.arr (.int .u8) 0,.st [.it .u8,.it .i64,.it .i64,.sl 2 0 1,.bo] 1 0,.arr (.int .u8) 0]
 to := fun a b => (a.2.1,b.1,b.2.1.1,b.2.1.2.1,b.2.1.2.2.1,b.2.1.2.2.2.1.1,b.2.1.2.2.2.1.2,b.2.1.2.2.2.2.1,b.2.2.1)
 fv := fun y => ((),(y.1,()))
 fh := fun y => (y.2.1,((y.2.2.1,(y.2.2.2.1,(y.2.2.2.2.1,((y.2.2.2.2.2.1,y.2.2.2.2.2.2.1),(y.2.2.2.2.2.2.2.1,()))))),(y.2.2.2.2.2.2.2.2,())))
noncomputable def cl : List (FuncId × Con) := [(82,F35c.con),(85,F33c.con),(69,F21.con),(86,F37.con)]
theorem cl_ok : allCon Tryd.prog cl := ⟨F35c.con_ok,F33c.con_ok,F21.con_ok,F37.con_ok,trivial⟩
noncomputable def E1 : Env := ⟨ty,cfOf cl,fun _ => none,none⟩
structure p0X where
 start_lo : Nat
 start_len : Nat
 start_cap : Nat
 d : List ((Int) × (Int) × Int)
 n : Int
 i : Int
 ss : List (Int)
 xs : List (Int)
 cls : Int
 cell : Int
 other : Int
 cells_lo : Nat
 cells_len : Nat
 intact : Bool
def p0 : Pt p0X where
 own := []
 t := ⟨[(0,.c (.slc 0 0 1)),(6,.c (.ptr 2 0)),(32,.c (.arr (.pair (.int .u8) (.pair (.int .i64) (.int .i64))))),(33,.c (.it .i64)),(34,.c (.it .i64))],[.arr (.int .u8) 0,.arr (.int .u8) 0,.st [.it .u8,.it .i64,.it .i64,.sl 1 0 1,.bo] 1 0]⟩
 to := fun v => ⟨v.1.1.1,v.1.1.2.1,v.1.1.2.2,v.1.2.2.1,v.1.2.2.2.1,v.1.2.2.2.2.1,v.2.1,v.2.2.1,v.2.2.2.1.1,v.2.2.2.1.2.1,v.2.2.2.1.2.2.1,v.2.2.2.1.2.2.2.1.1,v.2.2.2.1.2.2.2.1.2,v.2.2.2.1.2.2.2.2.1⟩
 fr := fun x => (((x.start_lo,x.start_len,x.start_cap),((),(x.d,(x.n,(x.i,()))))),(x.ss,(x.xs,((x.cls,(x.cell,(x.other,((x.cells_lo,x.cells_len),(x.intact,()))))),()))))
structure q0X where
 start_lo : Nat
 start_len : Nat
 start_cap : Nat
 ss : List (Int)
 xs : List (Int)
 cls : Int
 cell : Int
 other : Int
 cells_lo : Nat
 cells_len : Nat
 intact : Bool
def q0 : Pt q0X where
 own := []
 t := ⟨[(0,.c (.slc 0 0 1)),(6,.c (.ptr 2 0))],[.arr (.int .u8) 0,.arr (.int .u8) 0,.st [.it .u8,.it .i64,.it .i64,.sl 1 0 1,.bo] 1 0]⟩
 to := fun v => ⟨v.1.1.1,v.1.1.2.1,v.1.1.2.2,v.2.1,v.2.2.1,v.2.2.2.1.1,v.2.2.2.1.2.1,v.2.2.2.1.2.2.1,v.2.2.2.1.2.2.2.1.1,v.2.2.2.1.2.2.2.1.2,v.2.2.2.1.2.2.2.2.1⟩
 fr := fun x => (((x.start_lo,x.start_len,x.start_cap),((),())),(x.ss,(x.xs,((x.cls,(x.cell,(x.other,((x.cells_lo,x.cells_len),(x.intact,()))))),()))))
structure z0X where
 e : Int
 ss : List (Int)
def z0 : Pt z0X where
 own := []
 t := ⟨[(4,.c (.np)),(5,.c (.it .i64))],[.arr (.int .u8) 0]⟩
 to := fun v => ⟨v.1.2.1,v.2.1⟩
 fr := fun x => (((),(x.e,())),(x.ss,()))
noncomputable def s0 (x : p0X) : Option (p0X ⊕ (q0X ⊕ z0X)) := bif decide (x.i < x.n) then bif inR x.i x.d.length then bindO (F21.m { cls := (x.d[x.i.toNat]?.getD (0,0,0)).fst,cell := (x.d[x.i.toNat]?.getD (0,0,0)).snd.fst,other := (x.d[x.i.toNat]?.getD (0,0,0)).snd.snd,n := (↑x.start_len : Int) }) fun y => bif y != 0 then some (Sum.inr (Sum.inr { e := 1,ss := x.ss })) else bif decide ((x.d[x.i.toNat]?.getD (0,0,0)).fst ≤ 1) then bif inR (x.d[x.i.toNat]?.getD (0,0,0)).snd.fst x.cells_len then bif decide (x.cells_lo + Int.toNat (x.d[x.i.toNat]?.getD (0,0,0)).snd.fst < x.xs.length) then bindO (F37.m { cls := (x.d[x.i.toNat]?.getD (0,0,0)).fst,cell := (x.d[x.i.toNat]?.getD (0,0,0)).snd.fst,other := (x.d[x.i.toNat]?.getD (0,0,0)).snd.snd,cells_lo := x.cells_lo,cells_len := x.cells_len,intact := x.intact,xs := x.xs.set (x.cells_lo + Int.toNat (x.d[x.i.toNat]?.getD (0,0,0)).snd.fst) (x.d[x.i.toNat]?.getD (0,0,0)).fst }) fun y => some (Sum.inl { start_lo := x.start_lo,start_len := x.start_len,start_cap := x.start_cap,d := x.d,n := x.n,i := IntKind.i64.wrap (x.i + 1),ss := x.ss,xs := y.snd.snd.snd.snd.snd.snd,cls := y.fst,cell := y.snd.fst,other := y.snd.snd.fst,cells_lo := y.snd.snd.snd.fst,cells_len := y.snd.snd.snd.snd.fst,intact := y.snd.snd.snd.snd.snd.fst }) else none else none else bindO (F37.m { cls := (x.d[x.i.toNat]?.getD (0,0,0)).fst,cell := (x.d[x.i.toNat]?.getD (0,0,0)).snd.fst,other := (x.d[x.i.toNat]?.getD (0,0,0)).snd.snd,cells_lo := x.cells_lo,cells_len := x.cells_len,intact := x.intact,xs := x.xs }) fun y => some (Sum.inl { start_lo := x.start_lo,start_len := x.start_len,start_cap := x.start_cap,d := x.d,n := x.n,i := IntKind.i64.wrap (x.i + 1),ss := x.ss,xs := y.snd.snd.snd.snd.snd.snd,cls := y.fst,cell := y.snd.fst,other := y.snd.snd.fst,cells_lo := y.snd.snd.snd.fst,cells_len := y.snd.snd.snd.snd.fst,intact := y.snd.snd.snd.snd.snd.fst }) else none
else
 some
   (Sum.inr
     (Sum.inl
       { start_lo := x.start_lo,start_len := x.start_len,start_cap := x.start_cap,ss := x.ss,xs := x.xs,cls := x.cls,cell := x.cell,other := x.other,
         cells_lo := x.cells_lo,cells_len := x.cells_len,intact := x.intact }))
theorem s0_eq (x : p0X) : exec E1 63 (C60.bodyAt 0) 1 (p0.R x) (p0.H x) (roundK2 1 p0 (.exit 1) q0 .ret z0) = s0 x := by kernel_rfl
noncomputable def l0 : LoopS := mkLoop2 1 p0 (.exit 1) q0 .ret z0 s0
theorem tl0 : topL (C60.bodyAt 0) 1 = [] := by kernel_rfl
theorem l0_ok  : LoopOkS Tryd.prog 63 none 1 (C60.bodyAt 0) l0 := mkLoop2_ok mixed (env_ok ty_ok cl_ok _) (by trivial) (by trivial) (fun _ => rfl) (fun _ => rfl) (fun _ => rfl) (tl0 ▸ AllL.nil) s0_eq
noncomputable def E0 : Env := ⟨ty,cfOf cl,lpOf [(0,l0)],none⟩
noncomputable def m (x : gX) : Option fY := bif (↑x.start_len : Int) == 0 then none
else
 bif bif decide ((↑x.start_len : Int) > 1024) then true else decide ((↑x.d.length : Int) > 1) then none
 else
   bindO (F35c.m { s_lo := x.start_lo,s_len := x.start_len,s_cap := x.start_cap,ss := x.ss }) fun y =>
     bif y.fst then none
     else
       bindO (F33c.m { s_lo := x.start_lo,s_len := x.start_len,s_cap := x.start_cap,xs := x.ss }) fun y =>
         bindO
           (iter s0
             { start_lo := x.start_lo,start_len := x.start_len,start_cap := x.start_cap,d := x.d,n := (↑x.d.length : Int),i := 0,ss := y.snd.snd.fst,xs := y.snd.snd.snd,
               cls := 0,cell := 0,other := 0,cells_lo := y.fst,cells_len := y.snd.fst,intact := (↑x.d.length : Int) == 0 })
           fun s => sumC s (fun y => some (0,y.ss,y.cls,y.cell,y.other,y.cells_lo,y.cells_len,y.intact,y.xs)) fun z => none
theorem m_eq (x : gX) : exec E0 63 C60 0 (initS 0 (g.A x)) (g.H x) (finish 1 ty [.tmp 4,.tmp 5] f) = m x := by kernel_rfl
theorem tl : topL C60 0 = [(0,C60.bodyAt 0)] := by kernel_rfl
theorem known : Known Tryd.prog 60 g f m :=
 mk_known mixed (env_ok ty_ok cl_ok _) s60 rfl rfl tl (AllL.cons rfl l0_ok AllL.nil) (fun _ _ => ⟨rfl,rfl⟩) (fun _ _ => ⟨rfl,rfl⟩) m_eq
noncomputable def con : Con := conG g [.arg 0 0] f m default
theorem con_ok : ConOk Tryd.prog 60 con := conG_ok known
end F24c
end Go.Proofs.YtcnlccpihknehaaDoor
namespace Go.Proofs.YtcnlccpihknehaaDoor
open Go.Abs
set_option maxRecDepth 100000
namespace M63
structure gX where
 s_lo : Nat
 s_len : Nat
 fs : List ((Int) × (Int) × (Int) × Int)
def g : Sg gX where
 vs := [.c (.sl 0 0 4)]
 h := [.arr (.pair (.int .i64) (.pair (.int .i64) (.pair (.int .u8) (.int .u8)))) 0]
 to := fun a b => ⟨a.1.1,a.1.2,b.1⟩
 fa := fun x => ((x.s_lo,x.s_len),())
 fh := fun x => (x.fs,())
abbrev fY := Nat × Nat × Nat × (List ((Int) × (Int) × (Int) × Int))
def f : Ft fY where
 ord := none
 sh := .c (.slc 0 0 4)
 h := [.arr (.pair (.int .i64) (.pair (.int .i64) (.pair (.int .u8) (.int .u8)))) 0]
 to := fun a b => (a.1,a.2.1,a.2.2,b.1)
 fv := fun y => (y.1,y.2.1,y.2.2.1)
 fh := fun y => (y.2.2.2,())
def cl : List (FuncId × Con) := []
theorem cl_ok : allCon Tryd.prog cl := trivial
def E0 : Env := ⟨ty,cfOf cl,fun _ => none,none⟩
def m (x : gX) : Option fY := bif decide (0 ≤ (↑x.s_len : Int)) && decide ((↑x.s_len : Int) ≤ (↑x.s_len : Int)) && (decide (0 ≤ (↑x.s_len : Int)) && decide ((↑x.s_len : Int) ≤ (↑(↑x.s_len : Int).toNat : Int))) then some (x.s_lo,(↑x.s_len : Int).toNat,(↑x.s_len : Int).toNat,x.fs)
else none
theorem m_eq (x : gX) : exec E0 9 C63 0 (initS 0 (g.A x)) (g.H x) (finish 1 ty [.tmp 2] f) = m x := by kernel_rfl
theorem tl : topL C63 0 = [] := by kernel_rfl
theorem known : Known Tryd.prog 63 g f m :=
 mk_known mixed (env_ok ty_ok cl_ok _) s63 rfl rfl tl AllL.nil (fun _ _ => ⟨rfl,rfl⟩) (fun _ _ => ⟨rfl,rfl⟩) m_eq
def con : Con := conG g [.arg 0 0] f m default
theorem con_ok : ConOk Tryd.prog 63 con := conG_ok known
end M63
namespace M34
structure gX where
 m : List ((Int) × List ((Bool) × Int))
 s : List (Int)
 down : Bool
 d : List ((Int) × (Int) × Int)
def g : Sg gX where
 vs := [.c (.arr (.pair (.int .u8) (.sl (.pair .bool (.int .u8))))),.c (.arr (.int .u8)),.c (.bo),.c (.arr (.pair (.int .u8) (.pair (.int .i64) (.int .i64))))]
 h := []
 to := fun a b => ⟨a.1,a.2.1,a.2.2.1,a.2.2.2.1⟩
 fa := fun x => (x.m,(x.s,(x.down,(x.d,()))))
 fh := fun x => ()
abbrev fY := (List ((Int) × (Int) × (Int) × Int)) × Nat × Int
def f : Ft fY where
 ord := none
 sh := .tup [.inl (.arrc (.pair (.int .i64) (.pair (.int .i64) (.pair (.int .u8) (.int .u8))))),.inl (.it .i64)]
 h := []
 to := fun a b => (a.1.1,a.1.2,a.2.1)
 fv := fun y => ((y.1,y.2.1),(y.2.2,()))
 fh := fun y => ()
noncomputable def cl : List (FuncId × Con) := [(19,M19.con),(60,F24.con),(20,M20.con),(61,F15.con),(62,F17.con),(63,M63.con)]
theorem cl_ok : allCon Tryd.prog cl := ⟨M19.con_ok,F24.con_ok,M20.con_ok,F15.con_ok,F17.con_ok,M63.con_ok,trivial⟩
noncomputable def E1 : Env := ⟨ty,cfOf cl,fun _ => none,none⟩
structure p0X where
 out_lo : Nat
 out_len : Nat
 w : List ((Int) × (Int) × (Bool) × Int)
 n : Int
 i : Int
 cls : Int
 cell : Int
 other : Int
 cells_lo : Nat
 cells_len : Nat
 intact : Bool
 xs : List (Int)
 fs : List ((Int) × (Int) × (Int) × Int)
def p0 : Pt p0X where
 own := [.reg 15 (.pair (.int .i64) (.pair (.int .i64) (.pair (.int .u8) (.int .u8))))]
 t := ⟨[(11,.c (.ptr 0 0)),(15,.c (.sl 2 0 4)),(42,.c (.arr (.pair (.int .i64) (.pair (.int .i64) (.pair .bool (.int .u8)))))),(43,.c (.it .i64)),(44,.c (.it .i64))],[.st [.it .u8,.it .i64,.it .i64,.sl 1 0 1,.bo] 1 0,.arr (.int .u8) 0,.arr (.pair (.int .i64) (.pair (.int .i64) (.pair (.int .u8) (.int .u8)))) 0]⟩
 to := fun v => ⟨v.1.2.1.1,v.1.2.1.2,v.1.2.2.1,v.1.2.2.2.1,v.1.2.2.2.2.1,v.2.1.1,v.2.1.2.1,v.2.1.2.2.1,v.2.1.2.2.2.1.1,v.2.1.2.2.2.1.2,v.2.1.2.2.2.2.1,v.2.2.1,v.2.2.2.1⟩
 fr := fun x => (((),((x.out_lo,x.out_len),(x.w,(x.n,(x.i,()))))),((x.cls,(x.cell,(x.other,((x.cells_lo,x.cells_len),(x.intact,()))))),(x.xs,(x.fs,()))))
structure q0X where
 out_lo : Nat
 out_len : Nat
 cls : Int
 cell : Int
 other : Int
 cells_lo : Nat
 cells_len : Nat
 intact : Bool
 xs : List (Int)
 fs : List ((Int) × (Int) × (Int) × Int)
def q0 : Pt q0X where
 own := []
 t := ⟨[(15,.c (.sl 2 0 4))],[.st [.it .u8,.it .i64,.it .i64,.sl 1 0 1,.bo] 1 0,.arr (.int .u8) 0,.arr (.pair (.int .i64) (.pair (.int .i64) (.pair (.int .u8) (.int .u8)))) 0]⟩
 to := fun v => ⟨v.1.1.1,v.1.1.2,v.2.1.1,v.2.1.2.1,v.2.1.2.2.1,v.2.1.2.2.2.1.1,v.2.1.2.2.2.1.2,v.2.1.2.2.2.2.1,v.2.2.1,v.2.2.2.1⟩
 fr := fun x => (((x.out_lo,x.out_len),()),((x.cls,(x.cell,(x.other,((x.cells_lo,x.cells_len),(x.intact,()))))),(x.xs,(x.fs,()))))
noncomputable def s0 (x : p0X) : Option (p0X ⊕ q0X) := bif decide (x.i < x.n) then bif inR x.i x.w.length then bif (x.w[x.i.toNat]?.getD (0,0,false,0)).snd.snd.fst then bindO (F15.m { addr := (x.w[x.i.toNat]?.getD (0,0,false,0)).snd.fst,v := (x.w[x.i.toNat]?.getD (0,0,false,0)).snd.snd.snd,cls := x.cls,cell := x.cell,other := x.other,cells_lo := x.cells_lo,cells_len := x.cells_len,intact := x.intact,xs := x.xs }) fun y => some (Sum.inl { out_lo := x.out_lo,out_len := x.out_len,w := x.w,n := x.n,i := IntKind.i64.wrap (x.i + 1),cls := y.snd.fst,cell := y.snd.snd.fst,other := y.snd.snd.snd.fst,cells_lo := y.snd.snd.snd.snd.fst,cells_len := y.snd.snd.snd.snd.snd.fst,intact := y.snd.snd.snd.snd.snd.snd.fst,xs := y.snd.snd.snd.snd.snd.snd.snd,fs := x.fs }) else bindO (F17.m { addr := (x.w[x.i.toNat]?.getD (0,0,false,0)).snd.fst,cls := x.cls,cell := x.cell,other := x.other,cells_lo := x.cells_lo,cells_len := x.cells_len,intact := x.intact,xs := x.xs }) fun y => bif y.fst != (x.w[x.i.toNat]?.getD (0,0,false,0)).snd.snd.snd then bif eqN x.out_lo 0 && eqN x.fs.length x.out_len && roomB (x.out_len + 1) 24 then some (Sum.inl { out_lo := 0,out_len := x.out_len + 1,w := x.w,n := x.n,i := IntKind.i64.wrap (x.i + 1),cls := y.snd.snd.fst,cell := y.snd.snd.snd.fst,other := y.snd.snd.snd.snd.fst,cells_lo := y.snd.snd.snd.snd.snd.fst,cells_len := y.snd.snd.snd.snd.snd.snd.fst,intact := y.snd.snd.snd.snd.snd.snd.snd.fst,xs := y.snd.snd.snd.snd.snd.snd.snd.snd,fs := x.fs ++ [(x.i,(x.w[x.i.toNat]?.getD (0,0,false,0)).snd.fst,y.fst,(x.w[x.i.toNat]?.getD (0,0,false,0)).snd.snd.snd)] }) else none else some (Sum.inl { out_lo := x.out_lo,out_len := x.out_len,w := x.w,n := x.n,i := IntKind.i64.wrap (x.i + 1),cls := y.snd.snd.fst,cell := y.snd.snd.snd.fst,other := y.snd.snd.snd.snd.fst,cells_lo := y.snd.snd.snd.snd.snd.fst,cells_len := y.snd.snd.snd.snd.snd.snd.fst,intact := y.snd.snd.snd.snd.snd.snd.snd.fst,xs := y.snd.snd.snd.snd.snd.snd.snd.snd,fs := x.fs }) else none
else
 some
   (Sum.inr
     { out_lo := x.out_lo,out_len := x.out_len,cls := x.cls,cell := x.cell,other := x.other,cells_lo := x.cells_lo,cells_len := x.cells_len,intact := x.intact,xs := x.xs,
       fs := x.fs })
theorem s0_eq (x : p0X) : exec E1 85 (C34.bodyAt 0) 1 (p0.R x) (p0.H x) (roundK 0 p0 (.exit 0) q0) = s0 x := by kernel_rfl
noncomputable def l0 : LoopS := mkLoop 0 p0 (.exit 0) q0 s0
theorem tl0 : topL (C34.bodyAt 0) 1 = [] := by kernel_rfl
theorem l0_ok  : LoopOkS Tryd.prog 85 none 0 (C34.bodyAt 0) l0 := mkLoop_ok mixed (env_ok ty_ok cl_ok _) (by trivial) (fun _ => rfl) (fun _ => rfl) (tl0 ▸ AllL.nil) s0_eq
noncomputable def E0 : Env := ⟨ty,cfOf cl,lpOf [(0,l0)],none⟩
noncomputable def m (x : gX) : Option fY := bindO (M19.m { m := x.m }) fun y => bif y != 0 then some ([],0,y) else bindO (F24.m { start := x.s,d := x.d }) fun y => bif y.fst != 0 then some ([],0,y.fst) else bindO (M20.m { m := x.m,n := (↑x.s.length : Int),down := x.down }) fun y_1 => bindO (iter s0 { out_lo := 0,out_len := 0,w := y_1.fst,n := (↑y_1.fst.length : Int),i := 0,cls := y.snd.fst,cell := y.snd.snd.fst,other := y.snd.snd.snd.fst,cells_lo := y.snd.snd.snd.snd.fst,cells_len := y.snd.snd.snd.snd.snd.fst,intact := y.snd.snd.snd.snd.snd.snd.fst,xs := y.snd.snd.snd.snd.snd.snd.snd,fs := [] }) fun y => bindO (M63.m { s_lo := y.out_lo,s_len := y.out_len,fs := y.fs }) fun y => bif leB (y.fst + y.snd.fst) y.snd.snd.snd.length && true && true && true then some (List.take y.snd.fst (List.drop y.fst y.snd.snd.snd),y.snd.snd.fst,0) else none
theorem m_eq (x : gX) : exec E0 85 C34 0 (initS 0 (g.A x)) (g.H x) (finish 0 ty [.tmp 8,.tmp 9] f) = m x := by kernel_rfl
theorem tl : topL C34 0 = [(0,C34.bodyAt 0)] := by kernel_rfl
theorem known : Known Tryd.prog 34 g f m :=
 mk_known mixed (env_ok ty_ok cl_ok _) s34 rfl rfl tl (AllL.cons rfl l0_ok AllL.nil) (fun _ _ => ⟨rfl,rfl⟩) (fun _ _ => ⟨rfl,rfl⟩) m_eq
noncomputable def con : Con := conT g f m default
theorem con_ok : ConOk Tryd.prog 34 con := conT_ok known (fun _ => rfl) rfl
end M34
namespace M34o
structure gX where
 m : List ((Int) × List ((Bool) × Int))
 s_lo : Nat
 s_len : Nat
 s_cap : Nat
 down : Bool
 d : List ((Int) × (Int) × Int)
 ss : List (Int)
def g : Sg gX where
 vs := [.c (.arr (.pair (.int .u8) (.sl (.pair .bool (.int .u8))))),.c (.slc 0 0 1),.c (.bo),.c (.arr (.pair (.int .u8) (.pair (.int .i64) (.int .i64))))]
 h := [.arr (.int .u8) 0]
 to := fun a b => ⟨a.1,a.2.1.1,a.2.1.2.1,a.2.1.2.2,a.2.2.1,a.2.2.2.1,b.1⟩
 fa := fun x => (x.m,((x.s_lo,x.s_len,x.s_cap),(x.down,(x.d,()))))
 fh := fun x => (x.ss,())
abbrev fY := (List ((Int) × (Int) × (Int) × Int)) × Nat × Int × List (Int)
def f : Ft fY where
 ord := none
 sh := .tup [.inl (.arrc (.pair (.int .i64) (.pair (.int .i64) (.pair (.int .u8) (.int .u8))))),.inl (.it .i64)]
 h := [.arr (.int .u8) 0]
 to := fun a b => (a.1.1,a.1.2,a.2.1,b.1)
 fv := fun y => ((y.1,y.2.1),(y.2.2.1,()))
 fh := fun y => (y.2.2.2,())
noncomputable def cl : List (FuncId × Con) := [(19,M19.con),(60,F24c.con),(20,M20.con),(61,F15.con),(62,F17.con),(63,M63.con)]
theorem cl_ok : allCon Tryd.prog cl := ⟨M19.con_ok,F24c.con_ok,M20.con_ok,F15.con_ok,F17.con_ok,M63.con_ok,trivial⟩
noncomputable def E1 : Env := ⟨ty,cfOf cl,fun _ => none,none⟩
structure p0X where
 s_lo : Nat
 s_len : Nat
 s_cap : Nat
 out_lo : Nat
 out_len : Nat
 w : List ((Int) × (Int) × (Bool) × Int)
 n : Int
 i : Int
 ss : List (Int)
 cls : Int
 cell : Int
 other : Int
 cells_lo : Nat
 cells_len : Nat
 intact : Bool
 xs : List (Int)
 fs : List ((Int) × (Int) × (Int) × Int)
def p0 : Pt p0X where
 own := [.reg 15 (.pair (.int .i64) (.pair (.int .i64) (.pair (.int .u8) (.int .u8))))]
 t := ⟨[(1,.c (.slc 0 0 1)),(11,.c (.ptr 1 0)),(15,.c (.sl 3 0 4)),(42,.c (.arr (.pair (.int .i64) (.pair (.int .i64) (.pair .bool (.int .u8)))))),(43,.c (.it .i64)),(44,.c (.it .i64))],[.arr (.int .u8) 0,.st [.it .u8,.it .i64,.it .i64,.sl 2 0 1,.bo] 1 0,.arr (.int .u8) 0,.arr (.pair (.int .i64) (.pair (.int .i64) (.pair (.int .u8) (.int .u8)))) 0]⟩
 to := fun v => ⟨v.1.1.1,v.1.1.2.1,v.1.1.2.2,v.1.2.2.1.1,v.1.2.2.1.2,v.1.2.2.2.1,v.1.2.2.2.2.1,v.1.2.2.2.2.2.1,v.2.1,v.2.2.1.1,v.2.2.1.2.1,v.2.2.1.2.2.1,v.2.2.1.2.2.2.1.1,v.2.2.1.2.2.2.1.2,v.2.2.1.2.2.2.2.1,v.2.2.2.1,v.2.2.2.2.1⟩
 fr := fun x => (((x.s_lo,x.s_len,x.s_cap),((),((x.out_lo,x.out_len),(x.w,(x.n,(x.i,())))))),(x.ss,((x.cls,(x.cell,(x.other,((x.cells_lo,x.cells_len),(x.intact,()))))),(x.xs,(x.fs,())))))
structure q0X where
 s_lo : Nat
 s_len : Nat
 s_cap : Nat
 out_lo : Nat
 out_len : Nat
 ss : List (Int)
 cls : Int
 cell : Int
 other : Int
 cells_lo : Nat
 cells_len : Nat
 intact : Bool
 xs : List (Int)
 fs : List ((Int) × (Int) × (Int) × Int)
def q0 : Pt q0X where
 own := []
 t := ⟨[(1,.c (.slc 0 0 1)),(15,.c (.sl 3 0 4))],[.arr (.int .u8) 0,.st [.it .u8,.it .i64,.it .i64,.sl 2 0 1,.bo] 1 0,.arr (.int .u8) 0,.arr (.pair (.int .i64) (.pair (.int .i64) (.pair (.int .u8) (.int .u8)))) 0]⟩
 to := fun v => ⟨v.1.1.1,v.1.1.2.1,v.1.1.2.2,v.1.2.1.1,v.1.2.1.2,v.2.1,v.2.2.1.1,v.2.2.1.2.1,v.2.2.1.2.2.1,v.2.2.1.2.2.2.1.1,v.2.2.1.2.2.2.1.2,v.2.2.1.2.2.2.2.1,v.2.2.2.1,v.2.2.2.2.1⟩
 fr := fun x => (((x.s_lo,x.s_len,x.s_cap),((x.out_lo,x.out_len),())),(x.ss,((x.cls,(x.cell,(x.other,((x.cells_lo,x.cells_len),(x.intact,()))))),(x.xs,(x.fs,())))))
noncomputable def s0 (x : p0X) : Option (p0X ⊕ q0X) := bif decide (x.i < x.n) then bif inR x.i x.w.length then bif (x.w[x.i.toNat]?.getD (0,0,false,0)).snd.snd.fst then bindO (F15.m { addr := (x.w[x.i.toNat]?.getD (0,0,false,0)).snd.fst,v := (x.w[x.i.toNat]?.getD (0,0,false,0)).snd.snd.snd,cls := x.cls,cell := x.cell,other := x.other,cells_lo := x.cells_lo,cells_len := x.cells_len,intact := x.intact,xs := x.xs }) fun y => some (Sum.inl { s_lo := x.s_lo,s_len := x.s_len,s_cap := x.s_cap,out_lo := x.out_lo,out_len := x.out_len,w := x.w,n := x.n,i := IntKind.i64.wrap (x.i + 1),ss := x.ss,cls := y.snd.fst,cell := y.snd.snd.fst,other := y.snd.snd.snd.fst,cells_lo := y.snd.snd.snd.snd.fst,cells_len := y.snd.snd.snd.snd.snd.fst,intact := y.snd.snd.snd.snd.snd.snd.fst,xs := y.snd.snd.snd.snd.snd.snd.snd,fs := x.fs }) else bindO (F17.m { addr := (x.w[x.i.toNat]?.getD (0,0,false,0)).snd.fst,cls := x.cls,cell := x.cell,other := x.other,cells_lo := x.cells_lo,cells_len := x.cells_len,intact := x.intact,xs := x.xs }) fun y => bif y.fst != (x.w[x.i.toNat]?.getD (0,0,false,0)).snd.snd.snd then bif eqN x.out_lo 0 && eqN x.fs.length x.out_len && roomB (x.out_len + 1) 24 then some (Sum.inl { s_lo := x.s_lo,s_len := x.s_len,s_cap := x.s_cap,out_lo := 0,out_len := x.out_len + 1,w := x.w,n := x.n,i := IntKind.i64.wrap (x.i + 1),ss := x.ss,cls := y.snd.snd.fst,cell := y.snd.snd.snd.fst,other := y.snd.snd.snd.snd.fst,cells_lo := y.snd.snd.snd.snd.snd.fst,cells_len := y.snd.snd.snd.snd.snd.snd.fst,intact := y.snd.snd.snd.snd.snd.snd.snd.fst,xs := y.snd.snd.snd.snd.snd.snd.snd.snd,fs := x.fs ++ [(x.i,(x.w[x.i.toNat]?.getD (0,0,false,0)).snd.fst,y.fst,(x.w[x.i.toNat]?.getD (0,0,false,0)).snd.snd.snd)] }) else none else some (Sum.inl { s_lo := x.s_lo,s_len := x.s_len,s_cap := x.s_cap,out_lo := x.out_lo,out_len := x.out_len,w := x.w,n := x.n,i := IntKind.i64.wrap (x.i + 1),ss := x.ss,cls := y.snd.snd.fst,cell := y.snd.snd.snd.fst,other := y.snd.snd.snd.snd.fst,cells_lo := y.snd.snd.snd.snd.snd.fst,cells_len := y.snd.snd.snd.snd.snd.snd.fst,intact := y.snd.snd.snd.snd.snd.snd.snd.fst,xs := y.snd.snd.snd.snd.snd.snd.snd.snd,fs := x.fs }) else none
else
 some
   (Sum.inr
     { s_lo := x.s_lo,s_len := x.s_len,s_cap := x.s_cap,out_lo := x.out_lo,out_len := x.out_len,ss := x.ss,cls := x.cls,cell := x.cell,other := x.other,
       cells_lo := x.cells_lo,cells_len := x.cells_len,intact := x.intact,xs := x.xs,fs := x.fs })
theorem s0_eq (x : p0X) : exec E1 85 (C34.bodyAt 0) 1 (p0.R x) (p0.H x) (roundK 1 p0 (.exit 0) q0) = s0 x := by kernel_rfl
noncomputable def l0 : LoopS := mkLoop 1 p0 (.exit 0) q0 s0
theorem tl0 : topL (C34.bodyAt 0) 1 = [] := by kernel_rfl
theorem l0_ok  : LoopOkS Tryd.prog 85 none 1 (C34.bodyAt 0) l0 := mkLoop_ok mixed (env_ok ty_ok cl_ok _) (by trivial) (fun _ => rfl) (fun _ => rfl) (tl0 ▸ AllL.nil) s0_eq
noncomputable def E0 : Env := ⟨ty,cfOf cl,lpOf [(0,l0)],none⟩
noncomputable def m (x : gX) : Option fY := bindO (M19.m { m := x.m }) fun y => bif y != 0 then some ([],0,y,x.ss) else bindO (F24c.m { start_lo := x.s_lo,start_len := x.s_len,start_cap := x.s_cap,d := x.d,ss := x.ss }) fun y => bif y.fst != 0 then some ([],0,y.fst,y.snd.fst) else bindO (M20.m { m := x.m,n := (↑x.s_len : Int),down := x.down }) fun y_1 => bindO (iter s0 { s_lo := x.s_lo,s_len := x.s_len,s_cap := x.s_cap,out_lo := 0,out_len := 0,w := y_1.fst,n := (↑y_1.fst.length : Int),i := 0,ss := y.snd.fst,cls := y.snd.snd.fst,cell := y.snd.snd.snd.fst,other := y.snd.snd.snd.snd.fst,cells_lo := y.snd.snd.snd.snd.snd.fst,cells_len := y.snd.snd.snd.snd.snd.snd.fst,intact := y.snd.snd.snd.snd.snd.snd.snd.fst,xs := y.snd.snd.snd.snd.snd.snd.snd.snd,fs := [] }) fun y => bindO (M63.m { s_lo := y.out_lo,s_len := y.out_len,fs := y.fs }) fun y_2 => bif leB (y_2.fst + y_2.snd.fst) y_2.snd.snd.snd.length && true && true && true then some (List.take y_2.snd.fst (List.drop y_2.fst y_2.snd.snd.snd),y_2.snd.snd.fst,0,y.ss) else none
theorem m_eq (x : gX) : exec E0 85 C34 0 (initS 0 (g.A x)) (g.H x) (finish 1 ty [.tmp 8,.tmp 9] f) = m x := by kernel_rfl
theorem tl : topL C34 0 = [(0,C34.bodyAt 0)] := by kernel_rfl
theorem known : Known Tryd.prog 34 g f m :=
 mk_known mixed (env_ok ty_ok cl_ok _) s34 rfl rfl tl (AllL.cons rfl l0_ok AllL.nil) (fun _ _ => ⟨rfl,rfl⟩) (fun _ _ => ⟨rfl,rfl⟩) m_eq
noncomputable def con : Con := conG g [.arg 1 0] f m default
theorem con_ok : ConOk Tryd.prog 34 con := conG_ok known
end M34o
end Go.Proofs.YtcnlccpihknehaaDoor
namespace Go.Proofs.YtcnlccpihknehaaDoor
open Go.Abs
set_option maxRecDepth 100000
end Go.Proofs.YtcnlccpihknehaaDoor
namespace Go.Proofs.YtcnlccpihknehaaDoor
open Go.Abs
set_option maxRecDepth 100000
namespace M93
structure gX where
 n : Int
 cls : Int
 cell : Int
 other : Int
def g : Sg gX where
 vs := [.c (.it .i64),.agg [.it .u8,.it .i64,.it .i64]]
 h := []
 to := fun a b => ⟨a.1,a.2.1.1,a.2.1.2.1,a.2.1.2.2.1⟩
 fa := fun x => (x.n,((x.cls,(x.cell,(x.other,()))),()))
 fh := fun x => ()
abbrev fY := Int × Int × Int × Int
def f : Ft fY where
 ord := none
 sh := .c (.clo 100 [⟨0,0,0⟩,⟨1,0,0⟩])
 h := [.st [.it .i64] 1 0,.st [.it .u8,.it .i64,.it .i64] 1 0]
 to := fun a b => (b.1.1,b.2.1.1,b.2.1.2.1,b.2.1.2.2.1)
 fv := fun y => ()
 fh := fun y => ((y.1,()),((y.2.1,(y.2.2.1,(y.2.2.2,()))),()))
def cl : List (FuncId × Con) := []
theorem cl_ok : allCon Tryd.prog cl := trivial
def E0 : Env := ⟨ty,cfOf cl,fun _ => none,none⟩
def m (x : gX) : Option fY := some (x.n,x.cls,x.cell,x.other)
theorem m_eq (x : gX) : exec E0 6 C93 0 (initS 0 (g.A x)) (g.H x) (finish 0 ty [.tmp 4] f) = m x := by kernel_rfl
theorem tl : topL C93 0 = [] := by kernel_rfl
theorem known : Known Tryd.prog 93 g f m :=
 mk_known mixed (env_ok ty_ok cl_ok _) s93 rfl rfl tl AllL.nil (fun _ _ => ⟨rfl,rfl⟩) (fun _ _ => ⟨rfl,rfl⟩) m_eq
def con : Con := conG g [] f m default
theorem con_ok : ConOk Tryd.prog 93 con := conG_ok known
end M93
namespace M70
structure gX where
 m : List ((Int) × List ((Bool) × Int))
 n : Int
 cls : Int
 cell : Int
 other : Int
def g : Sg gX where
 vs := [.c (.arr (.pair (.int .u8) (.sl (.pair .bool (.int .u8))))),.c (.it .i64),.agg [.it .u8,.it .i64,.it .i64]]
 h := []
 to := fun a b => ⟨a.1,a.2.1,a.2.2.1.1,a.2.2.1.2.1,a.2.2.1.2.2.1⟩
 fa := fun x => (x.m,(x.n,((x.cls,(x.cell,(x.other,()))),())))
 fh := fun x => ()
abbrev fY := Bool
def f : Ft fY where
 ord := none
 sh := .c (.bo)
 h := []
 to := fun a b => (a)
 fv := fun y => y
 fh := fun y => ()
noncomputable def cl : List (FuncId × Con) := [(93,M93.con),(34,M34o.con)]
theorem cl_ok : allCon Tryd.prog cl := ⟨M93.con_ok,M34o.con_ok,trivial⟩
def R0 : CC := C70.rngAt 0
noncomputable def EB0_1 : Env := ⟨ty,cfOf cl,fun _ => none,none⟩
structure b0_p0X where
 s_lo : Nat
 s_len : Nat
 s_cap : Nat
 l : List (Bool)
 n2 : Int
 j : Int
 k : Int
 m : List ((Int) × List ((Bool) × Int))
 dcls : Int
 dcell : Int
 dother : Int
 res : Bool
 n : Int
 ecls : Int
 ecell : Int
 eother : Int
 ss : List (Int)
def b0_p0 : Pt b0_p0X where
 own := []
 t := ⟨[(3,.c (.ptr 0 0)),(5,.c (.ptr 1 0)),(6,.c (.ptr 2 0)),(7,.c (.slc 5 0 1)),(16,.c (.arr .bool)),(17,.c (.it .i64)),(18,.c (.it .i64)),(1000000,.c (.clo 1000000 [])),(1000001,.c (.ptr 3 0)),(1000002,.c (.ptr 4 0)),(1000006,.c (.it .i64)),(2000003,.c (.ptr 0 0)),(2000005,.c (.ptr 1 0)),(2000006,.c (.ptr 2 0))],[.st [.arr (.pair (.int .u8) (.sl (.pair .bool (.int .u8))))] 1 0,.st [.it .u8,.it .i64,.it .i64] 1 0,.st [.bo] 1 0,.st [.it .i64] 1 0,.st [.it .u8,.it .i64,.it .i64] 1 0,.arr (.int .u8) 0]⟩
 to := fun v => ⟨v.1.2.2.2.1.1,v.1.2.2.2.1.2.1,v.1.2.2.2.1.2.2,v.1.2.2.2.2.1,v.1.2.2.2.2.2.1,v.1.2.2.2.2.2.2.1,v.1.2.2.2.2.2.2.2.2.2.2.1,v.2.1.1,v.2.2.1.1,v.2.2.1.2.1,v.2.2.1.2.2.1,v.2.2.2.1.1,v.2.2.2.2.1.1,v.2.2.2.2.2.1.1,v.2.2.2.2.2.1.2.1,v.2.2.2.2.2.1.2.2.1,v.2.2.2.2.2.2.1⟩
 fr := fun x => (((),((),((),((x.s_lo,x.s_len,x.s_cap),(x.l,(x.n2,(x.j,((),((),((),(x.k,((),((),((),())))))))))))))),((x.m,()),((x.dcls,(x.dcell,(x.dother,()))),((x.res,()),((x.n,()),((x.ecls,(x.ecell,(x.eother,()))),(x.ss,())))))))
structure b0_q0X where
 k : Int
 m : List ((Int) × List ((Bool) × Int))
 dcls : Int
 dcell : Int
 dother : Int
 res : Bool
 n : Int
 ecls : Int
 ecell : Int
 eother : Int
def b0_q0 : Pt b0_q0X where
 own := []
 t := ⟨[(1000000,.c (.clo 1000000 [])),(1000001,.c (.ptr 3 0)),(1000002,.c (.ptr 4 0)),(1000006,.c (.it .i64)),(2000003,.c (.ptr 0 0)),(2000005,.c (.ptr 1 0)),(2000006,.c (.ptr 2 0))],[.st [.arr (.pair (.int .u8) (.sl (.pair .bool (.int .u8))))] 1 0,.st [.it .u8,.it .i64,.it .i64] 1 0,.st [.bo] 1 0,.st [.it .i64] 1 0,.st [.it .u8,.it .i64,.it .i64] 1 0]⟩
 to := fun v => ⟨v.1.2.2.2.1,v.2.1.1,v.2.2.1.1,v.2.2.1.2.1,v.2.2.1.2.2.1,v.2.2.2.1.1,v.2.2.2.2.1.1,v.2.2.2.2.2.1.1,v.2.2.2.2.2.1.2.1,v.2.2.2.2.2.1.2.2.1⟩
 fr := fun x => (((),((),((),(x.k,((),((),((),()))))))),((x.m,()),((x.dcls,(x.dcell,(x.dother,()))),((x.res,()),((x.n,()),((x.ecls,(x.ecell,(x.eother,()))),()))))))
structure b0_z0X where
 k : Int
 m : List ((Int) × List ((Bool) × Int))
 dcls : Int
 dcell : Int
 dother : Int
 res : Bool
 n : Int
 ecls : Int
 ecell : Int
 eother : Int
def b0_z0 : Pt b0_z0X where
 own := []
 t := ⟨[(1000000,.c (.clo 1000000 [])),(1000001,.c (.ptr 3 0)),(1000002,.c (.ptr 4 0)),(1000006,.c (.it .i64)),(2000003,.c (.ptr 0 0)),(2000005,.c (.ptr 1 0)),(2000006,.c (.ptr 2 0))],[.st [.arr (.pair (.int .u8) (.sl (.pair .bool (.int .u8))))] 1 0,.st [.it .u8,.it .i64,.it .i64] 1 0,.st [.bo] 1 0,.st [.it .i64] 1 0,.st [.it .u8,.it .i64,.it .i64] 1 0]⟩
 to := fun v => ⟨v.1.2.2.2.1,v.2.1.1,v.2.2.1.1,v.2.2.1.2.1,v.2.2.1.2.2.1,v.2.2.2.1.1,v.2.2.2.2.1.1,v.2.2.2.2.2.1.1,v.2.2.2.2.2.1.2.1,v.2.2.2.2.2.1.2.2.1⟩
 fr := fun x => (((),((),((),(x.k,((),((),((),()))))))),((x.m,()),((x.dcls,(x.dcell,(x.dother,()))),((x.res,()),((x.n,()),((x.ecls,(x.ecell,(x.eother,()))),()))))))
noncomputable def b0_s0 (x : b0_p0X) : Option (b0_p0X ⊕ (b0_q0X ⊕ b0_z0X)) := bif decide (x.j < x.n2) then bif inR x.j x.l.length then bindO (M34o.m { m := x.m,s_lo := x.s_lo,s_len := x.s_len,s_cap := x.s_cap,down := x.l[x.j.toNat]?.getD false,d := [(x.dcls,x.dcell,x.dother)],ss := x.ss }) fun y => bif (↑y.fst.length : Int) == 0 then some (Sum.inr (Sum.inr { k := x.k,m := x.m,dcls := x.dcls,dcell := x.dcell,dother := x.dother,res := false,n := x.n,ecls := x.ecls,ecell := x.ecell,eother := x.eother })) else some (Sum.inl { s_lo := x.s_lo,s_len := x.s_len,s_cap := x.s_cap,l := x.l,n2 := x.n2,j := IntKind.i64.wrap (x.j + 1),k := x.k,m := x.m,dcls := x.dcls,dcell := x.dcell,dother := x.dother,res := x.res,n := x.n,ecls := x.ecls,ecell := x.ecell,eother := x.eother,ss := y.snd.snd.snd }) else none
else
 some
   (Sum.inr (Sum.inl { k := x.k,m := x.m,dcls := x.dcls,dcell := x.dcell,dother := x.dother,res := x.res,n := x.n,ecls := x.ecls,ecell := x.ecell,eother := x.eother }))
theorem b0_s0_eq (x : b0_p0X) : exec EB0_1 35 (R0.rB.bodyAt 0) 1 (b0_p0.R x) (b0_p0.H x) (roundK2 0 b0_p0 (.exit 2) b0_q0 .ret b0_z0) = b0_s0 x := by kernel_rfl
noncomputable def b0_l0 : LoopS := mkLoop2 0 b0_p0 (.exit 2) b0_q0 .ret b0_z0 b0_s0
theorem tb0_l0 : topL (R0.rB.bodyAt 0) 1 = [] := by kernel_rfl
theorem b0_l0_ok (l : Nat) : LoopOkS Tryd.prog 35 (some l) 0 (R0.rB.bodyAt 0) b0_l0 := mkLoop2_ok mixed (env_ok ty_ok cl_ok _) (by trivial) (by trivial) (fun _ => rfl) (fun _ => rfl) (fun _ => rfl) (tb0_l0 ▸ AllL.nil) b0_s0_eq
noncomputable def EB0_0 : Env := ⟨ty,cfOf cl,lpOf [(0,b0_l0)],none⟩
structure bp0X where
 s_lo : Nat
 s_len : Nat
 s_cap : Nat
 k : Int
 m : List ((Int) × List ((Bool) × Int))
 dcls : Int
 dcell : Int
 dother : Int
 res : Bool
 n : Int
 ecls : Int
 ecell : Int
 eother : Int
 ss : List (Int)
def bp0 : Pt bp0X where
 own := []
 t := ⟨[(3,.c (.ptr 0 0)),(5,.c (.ptr 1 0)),(6,.c (.ptr 2 0)),(15,.c (.slc 5 0 1)),(1000000,.c (.clo 1000000 [])),(1000001,.c (.ptr 3 0)),(1000002,.c (.ptr 4 0)),(1000006,.c (.it .i64)),(2000003,.c (.ptr 0 0)),(2000005,.c (.ptr 1 0)),(2000006,.c (.ptr 2 0))],[.st [.arr (.pair (.int .u8) (.sl (.pair .bool (.int .u8))))] 1 0,.st [.it .u8,.it .i64,.it .i64] 1 0,.st [.bo] 1 0,.st [.it .i64] 1 0,.st [.it .u8,.it .i64,.it .i64] 1 0,.arr (.int .u8) 0]⟩
 to := fun v => ⟨v.1.2.2.2.1.1,v.1.2.2.2.1.2.1,v.1.2.2.2.1.2.2,v.1.2.2.2.2.2.2.2.1,v.2.1.1,v.2.2.1.1,v.2.2.1.2.1,v.2.2.1.2.2.1,v.2.2.2.1.1,v.2.2.2.2.1.1,v.2.2.2.2.2.1.1,v.2.2.2.2.2.1.2.1,v.2.2.2.2.2.1.2.2.1,v.2.2.2.2.2.2.1⟩
 fr := fun x => (((),((),((),((x.s_lo,x.s_len,x.s_cap),((),((),((),(x.k,((),((),((),()))))))))))),((x.m,()),((x.dcls,(x.dcell,(x.dother,()))),((x.res,()),((x.n,()),((x.ecls,(x.ecell,(x.eother,()))),(x.ss,())))))))
structure bq0X where
 k : Int
 m : List ((Int) × List ((Bool) × Int))
 dcls : Int
 dcell : Int
 dother : Int
 res : Bool
 n : Int
 ecls : Int
 ecell : Int
 eother : Int
def bq0 : Pt bq0X where
 own := []
 t := ⟨[(1000000,.c (.clo 1000000 [])),(1000001,.c (.ptr 3 0)),(1000002,.c (.ptr 4 0)),(1000006,.c (.it .i64)),(2000003,.c (.ptr 0 0)),(2000005,.c (.ptr 1 0)),(2000006,.c (.ptr 2 0))],[.st [.arr (.pair (.int .u8) (.sl (.pair .bool (.int .u8))))] 1 0,.st [.it .u8,.it .i64,.it .i64] 1 0,.st [.bo] 1 0,.st [.it .i64] 1 0,.st [.it .u8,.it .i64,.it .i64] 1 0]⟩
 to := fun v => ⟨v.1.2.2.2.1,v.2.1.1,v.2.2.1.1,v.2.2.1.2.1,v.2.2.1.2.2.1,v.2.2.2.1.1,v.2.2.2.2.1.1,v.2.2.2.2.2.1.1,v.2.2.2.2.2.1.2.1,v.2.2.2.2.2.1.2.2.1⟩
 fr := fun x => (((),((),((),(x.k,((),((),((),()))))))),((x.m,()),((x.dcls,(x.dcell,(x.dother,()))),((x.res,()),((x.n,()),((x.ecls,(x.ecell,(x.eother,()))),()))))))
structure bz0X where
 k : Int
 m : List ((Int) × List ((Bool) × Int))
 dcls : Int
 dcell : Int
 dother : Int
 res : Bool
 n : Int
 ecls : Int
 ecell : Int
 eother : Int
def bz0 : Pt bz0X where
 own := []
 t := ⟨[(1000000,.c (.clo 1000000 [])),(1000001,.c (.ptr 3 0)),(1000002,.c (.ptr 4 0)),(1000006,.c (.it .i64)),(2000003,.c (.ptr 0 0)),(2000005,.c (.ptr 1 0)),(2000006,.c (.ptr 2 0))],[.st [.arr (.pair (.int .u8) (.sl (.pair .bool (.int .u8))))] 1 0,.st [.it .u8,.it .i64,.it .i64] 1 0,.st [.bo] 1 0,.st [.it .i64] 1 0,.st [.it .u8,.it .i64,.it .i64] 1 0]⟩
 to := fun v => ⟨v.1.2.2.2.1,v.2.1.1,v.2.2.1.1,v.2.2.1.2.1,v.2.2.1.2.2.1,v.2.2.2.1.1,v.2.2.2.2.1.1,v.2.2.2.2.2.1.1,v.2.2.2.2.2.1.2.1,v.2.2.2.2.2.1.2.2.1⟩
 fr := fun x => (((),((),((),(x.k,((),((),((),()))))))),((x.m,()),((x.dcls,(x.dcell,(x.dother,()))),((x.res,()),((x.n,()),((x.ecls,(x.ecell,(x.eother,()))),()))))))
noncomputable def sb0 (x : bp0X) : Option (bq0X ⊕ bz0X) := bindO (iter b0_s0 { s_lo := x.s_lo,s_len := x.s_len,s_cap := x.s_cap,l := [false,true],n2 := (↑2 : Int),j := 0,k := x.k,m := x.m,dcls := x.dcls,dcell := x.dcell,dother := x.dother,res := x.res,n := x.n,ecls := x.ecls,ecell := x.ecell,eother := x.eother,ss := x.ss }) fun s => sumC s (fun y => some (Sum.inl { k := y.k,m := y.m,dcls := y.dcls,dcell := y.dcell,dother := y.dother,res := y.res,n := y.n,ecls := y.ecls,ecell := y.ecell,eother := y.eother })) fun z => some (Sum.inr { k := z.k,m := z.m,dcls := z.dcls,dcell := z.dcell,dother := z.dother,res := z.res,n := z.n,ecls := z.ecls,ecell := z.ecell,eother := z.eother })
theorem sb0_eq (x : bp0X) : roundRun EB0_0 35 R0.rA R0.rB (bp0.R x) (bp0.H x) (endK2 0 bq0 .ret bz0) = sb0 x := by kernel_rfl
noncomputable def ub0 : LoopS := mkUnit2 0 bp0 bq0 .ret bz0 sb0
theorem ta0 : topL R0.rA 0 = [] := by kernel_rfl
theorem tb0 : topL R0.rB R0.rA.nl = [(0,R0.rB.bodyAt 0)] := by kernel_rfl
theorem ub0_ok {y : YI} (hy : Rnd R0.rA R0.rB R0.rP 35 y) : BodyOkS Tryd.prog 35 0 y.assign y.body ub0 := mkBody2_ok mixed (env_ok ty_ok cl_ok _) rfl ⟨by kernel_rfl,by kernel_rfl⟩ (fun _ => rfl) (fun _ => rfl) (fun _ => rfl) (fun _ => ta0 ▸ AllL.nil) (fun l => tb0 ▸ (AllL.cons rfl (b0_l0_ok l) AllL.nil)) sb0_eq hy
noncomputable def EI0_1 : Env := ⟨ty,cfOf cl,fun _ => none,some (R0.rP,ub0)⟩
theorem yi0_1 {y : YI} (hy : Rnd R0.rA R0.rB R0.rP 35 y) : YldOk Tryd.prog 0 EI0_1 (some y) := yld_ok rfl (by kernel_rfl) (by kernel_rfl) ub0_ok hy
structure i0_p0X where
 k : Int
 m : List ((Int) × List ((Bool) × Int))
 dcls : Int
 dcell : Int
 dother : Int
 res : Bool
 n : Int
 ecls : Int
 ecell : Int
 eother : Int
def i0_p0 : Pt i0_p0X where
 own := []
 t := ⟨[(0,.c (.clo 1000000 [])),(1,.c (.ptr 3 0)),(2,.c (.ptr 4 0)),(6,.c (.it .i64)),(2000003,.c (.ptr 0 0)),(2000005,.c (.ptr 1 0)),(2000006,.c (.ptr 2 0)),(3000000,.c (.fn 0))],[.st [.arr (.pair (.int .u8) (.sl (.pair .bool (.int .u8))))] 1 0,.st [.it .u8,.it .i64,.it .i64] 1 0,.st [.bo] 1 0,.st [.it .i64] 1 0,.st [.it .u8,.it .i64,.it .i64] 1 0]⟩
 to := fun v => ⟨v.1.2.2.2.1,v.2.1.1,v.2.2.1.1,v.2.2.1.2.1,v.2.2.1.2.2.1,v.2.2.2.1.1,v.2.2.2.2.1.1,v.2.2.2.2.2.1.1,v.2.2.2.2.2.1.2.1,v.2.2.2.2.2.1.2.2.1⟩
 fr := fun x => (((),((),((),(x.k,((),((),((),((),())))))))),((x.m,()),((x.dcls,(x.dcell,(x.dother,()))),((x.res,()),((x.n,()),((x.ecls,(x.ecell,(x.eother,()))),()))))))
structure i0_q0X where
 m : List ((Int) × List ((Bool) × Int))
 dcls : Int
 dcell : Int
 dother : Int
 res : Bool
 n : Int
 ecls : Int
 ecell : Int
 eother : Int
def i0_q0 : Pt i0_q0X where
 own := []
 t := ⟨[(2000003,.c (.ptr 0 0)),(2000005,.c (.ptr 1 0)),(2000006,.c (.ptr 2 0)),(3000000,.c (.fn 0))],[.st [.arr (.pair (.int .u8) (.sl (.pair .bool (.int .u8))))] 1 0,.st [.it .u8,.it .i64,.it .i64] 1 0,.st [.bo] 1 0,.st [.it .i64] 1 0,.st [.it .u8,.it .i64,.it .i64] 1 0]⟩
 to := fun v => ⟨v.2.1.1,v.2.2.1.1,v.2.2.1.2.1,v.2.2.1.2.2.1,v.2.2.2.1.1,v.2.2.2.2.1.1,v.2.2.2.2.2.1.1,v.2.2.2.2.2.1.2.1,v.2.2.2.2.2.1.2.2.1⟩
 fr := fun x => (((),((),((),((),())))),((x.m,()),((x.dcls,(x.dcell,(x.dother,()))),((x.res,()),((x.n,()),((x.ecls,(x.ecell,(x.eother,()))),()))))))
structure i0_z0X where
 m : List ((Int) × List ((Bool) × Int))
 dcls : Int
 dcell : Int
 dother : Int
 res : Bool
 n : Int
 ecls : Int
 ecell : Int
 eother : Int
def i0_z0 : Pt i0_z0X where
 own := []
 t := ⟨[(2000003,.c (.ptr 0 0)),(2000005,.c (.ptr 1 0)),(2000006,.c (.ptr 2 0)),(3000000,.c (.fn 2))],[.st [.arr (.pair (.int .u8) (.sl (.pair .bool (.int .u8))))] 1 0,.st [.it .u8,.it .i64,.it .i64] 1 0,.st [.bo] 1 0,.st [.it .i64] 1 0,.st [.it .u8,.it .i64,.it .i64] 1 0]⟩
 to := fun v => ⟨v.2.1.1,v.2.2.1.1,v.2.2.1.2.1,v.2.2.1.2.2.1,v.2.2.2.1.1,v.2.2.2.2.1.1,v.2.2.2.2.2.1.1,v.2.2.2.2.2.1.2.1,v.2.2.2.2.2.1.2.2.1⟩
 fr := fun x => (((),((),((),((),())))),((x.m,()),((x.dcls,(x.dcell,(x.dother,()))),((x.res,()),((x.n,()),((x.ecls,(x.ecell,(x.eother,()))),()))))))
noncomputable def i0_s0 (x : i0_p0X) : Option (i0_p0X ⊕ (i0_q0X ⊕ i0_z0X)) := bif decide (x.k < 4) then bif decide (0 ≤ x.n) && decide (x.n ≤ x.n) && decide (x.n * (↑1 : Int) ≤ 281474976710656) && decide (x.n ≤ 9223372036854775807) then bif inR x.eother x.n.toNat then bif decide (0 + x.eother.toNat < (List.replicate x.n.toNat (0 : Int)).length) then bif inR x.ecell x.n.toNat then bif decide (0 + x.ecell.toNat < ((List.replicate x.n.toNat (0 : Int)).set (0 + x.eother.toNat) (IntKind.u8.wrap (IntKind.i64.wrap (x.k.tdiv 2)))).length) then bindO (sb0 { s_lo := 0,s_len := x.n.toNat,s_cap := x.n.toNat,k := x.k,m := x.m,dcls := x.dcls,dcell := x.dcell,dother := x.dother,res := x.res,n := x.n,ecls := x.ecls,ecell := x.ecell,eother := x.eother,ss := ((List.replicate x.n.toNat (0 : Int)).set (0 + x.eother.toNat) (IntKind.u8.wrap (IntKind.i64.wrap (x.k.tdiv 2)))).set (0 + x.ecell.toNat) (IntKind.u8.wrap (x.k.tmod 2)) }) fun s => sumC s (fun y => some (Sum.inl { k := IntKind.i64.wrap (y.k + 1),m := y.m,dcls := y.dcls,dcell := y.dcell,dother := y.dother,res := y.res,n := y.n,ecls := y.ecls,ecell := y.ecell,eother := y.eother })) fun z => some (Sum.inr (Sum.inr { m := z.m,dcls := z.dcls,dcell := z.dcell,dother := z.dother,res := z.res,n := z.n,ecls := z.ecls,ecell := z.ecell,eother := z.eother })) else none else none else none else none else none
else some (Sum.inr (Sum.inl { m := x.m,dcls := x.dcls,dcell := x.dcell,dother := x.dother,res := x.res,n := x.n,ecls := x.ecls,ecell := x.ecell,eother := x.eother }))
theorem i0_s0_eq (x : i0_p0X) : exec EI0_1 30 (C100.bodyAt 0) 1 (i0_p0.R x) (i0_p0.H x) (roundK2 0 i0_p0 (.exit 0) i0_q0 .ret i0_z0) = i0_s0 x := by kernel_rfl
noncomputable def i0_l0 : LoopS := mkLoop2 0 i0_p0 (.exit 0) i0_q0 .ret i0_z0 i0_s0
theorem ti0_l0 : topL (C100.bodyAt 0) 1 = [] := by kernel_rfl
theorem i0_l0_ok {y : YI} (hy : Rnd R0.rA R0.rB R0.rP 35 y) : LoopOkS Tryd.prog 30 none 0 (C100.bodyAt 0) i0_l0 (some y) := mkLoop2_ok mixed (env_ok ty_ok cl_ok _) (by trivial) (by trivial) (fun _ => rfl) (fun _ => rfl) (fun _ => rfl) (ti0_l0 ▸ AllL.nil) i0_s0_eq (hyk := yi0_1 hy)
noncomputable def EI0_0 : Env := ⟨ty,cfOf cl,lpOf [(0,i0_l0)],some (R0.rP,ub0)⟩
theorem yi0_0 {y : YI} (hy : Rnd R0.rA R0.rB R0.rP 35 y) : YldOk Tryd.prog 0 EI0_0 (some y) := yld_ok rfl (by kernel_rfl) (by kernel_rfl) ub0_ok hy
structure p0X where
 m : List ((Int) × List ((Bool) × Int))
 dcls : Int
 dcell : Int
 dother : Int
 res : Bool
 n : Int
 ecls : Int
 ecell : Int
 eother : Int
def p0 : Pt p0X where
 own := []
 t := ⟨[(3,.c (.ptr 0 0)),(5,.c (.ptr 1 0)),(6,.c (.ptr 2 0)),(14,.c (.clo 100 [⟨3,0,0⟩,⟨4,0,0⟩]))],[.st [.arr (.pair (.int .u8) (.sl (.pair .bool (.int .u8))))] 1 0,.st [.it .u8,.it .i64,.it .i64] 1 0,.st [.bo] 1 0,.st [.it .i64] 1 0,.st [.it .u8,.it .i64,.it .i64] 1 0]⟩
 to := fun v => ⟨v.2.1.1,v.2.2.1.1,v.2.2.1.2.1,v.2.2.1.2.2.1,v.2.2.2.1.1,v.2.2.2.2.1.1,v.2.2.2.2.2.1.1,v.2.2.2.2.2.1.2.1,v.2.2.2.2.2.1.2.2.1⟩
 fr := fun x => (((),((),((),((),())))),((x.m,()),((x.dcls,(x.dcell,(x.dother,()))),((x.res,()),((x.n,()),((x.ecls,(x.ecell,(x.eother,()))),()))))))
structure q0X where
 m : List ((Int) × List ((Bool) × Int))
 dcls : Int
 dcell : Int
 dother : Int
 res : Bool
 n : Int
 ecls : Int
 ecell : Int
 eother : Int
def q0 : Pt q0X where
 own := []
 t := ⟨[(3,.c (.ptr 0 0)),(5,.c (.ptr 1 0)),(6,.c (.ptr 2 0))],[.st [.arr (.pair (.int .u8) (.sl (.pair .bool (.int .u8))))] 1 0,.st [.it .u8,.it .i64,.it .i64] 1 0,.st [.bo] 1 0,.st [.it .i64] 1 0,.st [.it .u8,.it .i64,.it .i64] 1 0]⟩
 to := fun v => ⟨v.2.1.1,v.2.2.1.1,v.2.2.1.2.1,v.2.2.1.2.2.1,v.2.2.2.1.1,v.2.2.2.2.1.1,v.2.2.2.2.2.1.1,v.2.2.2.2.2.1.2.1,v.2.2.2.2.2.1.2.2.1⟩
 fr := fun x => (((),((),((),()))),((x.m,()),((x.dcls,(x.dcell,(x.dother,()))),((x.res,()),((x.n,()),((x.ecls,(x.ecell,(x.eother,()))),()))))))
structure z0X where
 m : List ((Int) × List ((Bool) × Int))
 dcls : Int
 dcell : Int
 dother : Int
 res : Bool
 n : Int
 ecls : Int
 ecell : Int
 eother : Int
def z0 : Pt z0X where
 own := []
 t := ⟨[(3,.c (.ptr 0 0)),(5,.c (.ptr 1 0)),(6,.c (.ptr 2 0))],[.st [.arr (.pair (.int .u8) (.sl (.pair .bool (.int .u8))))] 1 0,.st [.it .u8,.it .i64,.it .i64] 1 0,.st [.bo] 1 0,.st [.it .i64] 1 0,.st [.it .u8,.it .i64,.it .i64] 1 0]⟩
 to := fun v => ⟨v.2.1.1,v.2.2.1.1,v.2.2.1.2.1,v.2.2.1.2.2.1,v.2.2.2.1.1,v.2.2.2.2.1.1,v.2.2.2.2.2.1.1,v.2.2.2.2.2.1.2.1,v.2.2.2.2.2.1.2.2.1⟩
 fr := fun x => (((),((),((),()))),((x.m,()),((x.dcls,(x.dcell,(x.dother,()))),((x.res,()),((x.n,()),((x.ecls,(x.ecell,(x.eother,()))),()))))))
noncomputable def s0 (x : p0X) : Option (q0X ⊕ z0X) := bindO (iter i0_s0 { k := 0,m := x.m,dcls := x.dcls,dcell := x.dcell,dother := x.dother,res := x.res,n := x.n,ecls := x.ecls,ecell := x.ecell,eother := x.eother }) fun s => sumC s (fun y => some (Sum.inl { m := y.m,dcls := y.dcls,dcell := y.dcell,dother := y.dother,res := y.res,n := y.n,ecls := y.ecls,ecell := y.ecell,eother := y.eother })) fun z => some (Sum.inr { m := z.m,dcls := z.dcls,dcell := z.dcell,dother := z.dother,res := z.res,n := z.n,ecls := z.ecls,ecell := z.ecell,eother := z.eother })
theorem s0_eq (x : p0X) : rngRun EI0_0 30 C100 100 R0.rF (p0.R x) (p0.H x) (leaveK (endK2 0 q0 .ret z0)) = s0 x := by kernel_rfl
noncomputable def l0 : LoopS := mkUnit2 0 p0 q0 .ret z0 s0
theorem ti0 : topL C100 0 = [(0,C100.bodyAt 0)] := by kernel_rfl
theorem l0_ok : RngOkS Tryd.prog 35 0 R0.rF R0.rP R0.rA R0.rB l0 := mkRng2_ok mixed (env_ok ty_ok cl_ok _) (fun hy => yi0_0 hy) s100 (by kernel_rfl) (fun hy => ti0 ▸ (AllL.cons rfl (i0_l0_ok hy) AllL.nil)) (fun _ => rfl) (fun _ => rfl) (fun _ => rfl) s0_eq
noncomputable def E0 : Env := ⟨ty,cfOf cl,lpOf [(0,l0)],none⟩
theorem ur : rngs C70 0 = [(0,R0)] := by kernel_rfl
noncomputable def m (x : gX) : Option fY := bindO (M93.m { n := x.n,cls := x.cls,cell := x.cell,other := x.other }) fun y => bindO (s0 { m := x.m,dcls := x.cls,dcell := x.cell,dother := x.other,res := false,n := y.fst,ecls := y.snd.fst,ecell := y.snd.snd.fst,eother := y.snd.snd.snd }) fun s => sumC s (fun y => some true) fun z => some z.res
theorem m_eq (x : gX) : exec E0 35 C70 0 (initS 0 (g.A x)) (g.H x) (finish 0 ty [.cell 6 4] f) = m x := by kernel_rfl
theorem tl : topL C70 0 = [] := by kernel_rfl
theorem known : Known Tryd.prog 70 g f m :=
 mk_known mixed (env_ok ty_ok cl_ok _) s70 rfl rfl tl AllL.nil (fun _ _ => ⟨rfl,rfl⟩) (fun _ _ => ⟨rfl,rfl⟩) m_eq (hg := RgOk.of rfl (ur ▸ (AllR.cons rfl rfl l0_ok AllR.nil)))
noncomputable def con : Con := conT g f m default
theorem con_ok : ConOk Tryd.prog 70 con := conT_ok known (fun _ => rfl) rfl
end M70
end Go.Proofs.YtcnlccpihknehaaDoor
namespace Go.Proofs.YtcnlccpihknehaaDoor
open Go.Abs
set_option maxRecDepth 100000
namespace M71
structure gX where
 s_lo : Nat
 s_len : Nat
 es : List ((Int) × (Bool) × Bool)
def g : Sg gX where
 vs := [.c (.sl 0 0 3)]
 h := [.arr (.pair (.int .u8) (.pair .bool .bool)) 0]
 to := fun a b => ⟨a.1.1,a.1.2,b.1⟩
 fa := fun x => ((x.s_lo,x.s_len),())
 fh := fun x => (x.es,())
abbrev fY := Nat × Nat × Nat × (List ((Int) × (Bool) × Bool))
def f : Ft fY where
 ord := none
 sh := .c (.slc 0 0 3)
 h := [.arr (.pair (.int .u8) (.pair .bool .bool)) 0]
 to := fun a b => (a.1,a.2.1,a.2.2,b.1)
 fv := fun y => (y.1,y.2.1,y.2.2.1)
 fh := fun y => (y.2.2.2,())
def cl : List (FuncId × Con) := []
theorem cl_ok : allCon Tryd.prog cl := trivial
def E0 : Env := ⟨ty,cfOf cl,fun _ => none,none⟩
def m (x : gX) : Option fY := bif decide (0 ≤ (↑x.s_len : Int)) && decide ((↑x.s_len : Int) ≤ (↑x.s_len : Int)) && (decide (0 ≤ (↑x.s_len : Int)) && decide ((↑x.s_len : Int) ≤ (↑(↑x.s_len : Int).toNat : Int))) then some (x.s_lo,(↑x.s_len : Int).toNat,(↑x.s_len : Int).toNat,x.es)
else none
theorem m_eq (x : gX) : exec E0 9 C71 0 (initS 0 (g.A x)) (g.H x) (finish 1 ty [.tmp 2] f) = m x := by kernel_rfl
theorem tl : topL C71 0 = [] := by kernel_rfl
theorem known : Known Tryd.prog 71 g f m :=
 mk_known mixed (env_ok ty_ok cl_ok _) s71 rfl rfl tl AllL.nil (fun _ _ => ⟨rfl,rfl⟩) (fun _ _ => ⟨rfl,rfl⟩) m_eq
def con : Con := conG g [.arg 0 0] f m default
theorem con_ok : ConOk Tryd.prog 71 con := conG_ok known
end M71
namespace M40
structure gX where
 m : List ((Int) × List ((Bool) × Int))
def g : Sg gX where
 vs := [.c (.arr (.pair (.int .u8) (.sl (.pair .bool (.int .u8)))))]
 h := []
 to := fun a b => ⟨a.1⟩
 fa := fun x => (x.m,())
 fh := fun x => ()
abbrev fY := (List ((Int) × (Bool) × Bool)) × Nat × Int
def f : Ft fY where
 ord := none
 sh := .tup [.inl (.arrc (.pair (.int .u8) (.pair .bool .bool))),.inl (.it .i64)]
 h := []
 to := fun a b => (a.1.1,a.1.2,a.2.1)
 fv := fun y => ((y.1,y.2.1),(y.2.2,()))
 fh := fun y => ()
noncomputable def cl : List (FuncId × Con) := [(19,M19.con),(41,F22.con),(70,M70.con),(71,M71.con)]
theorem cl_ok : allCon Tryd.prog cl := ⟨M19.con_ok,F22.con_ok,M70.con_ok,M71.con_ok,trivial⟩
noncomputable def E1 : Env := ⟨ty,cfOf cl,fun _ => none,none⟩
structure p0X where
 m : List ((Int) × List ((Bool) × Int))
 out_lo : Nat
 out_len : Nat
 c : Int
 es : List ((Int) × (Bool) × Bool)
def p0 : Pt p0X where
 own := [.reg 5 (.pair (.int .u8) (.pair .bool .bool))]
 t := ⟨[(0,.c (.arr (.pair (.int .u8) (.sl (.pair .bool (.int .u8)))))),(5,.c (.sl 0 0 3)),(12,.c (.it .u8))],[.arr (.pair (.int .u8) (.pair .bool .bool)) 0]⟩
 to := fun v => ⟨v.1.1,v.1.2.1.1,v.1.2.1.2,v.1.2.2.1,v.2.1⟩
 fr := fun x => ((x.m,((x.out_lo,x.out_len),(x.c,()))),(x.es,()))
structure q0X where
 out_lo : Nat
 out_len : Nat
 es : List ((Int) × (Bool) × Bool)
def q0 : Pt q0X where
 own := []
 t := ⟨[(5,.c (.sl 0 0 3))],[.arr (.pair (.int .u8) (.pair .bool .bool)) 0]⟩
 to := fun v => ⟨v.1.1.1,v.1.1.2,v.2.1⟩
 fr := fun x => (((x.out_lo,x.out_len),()),(x.es,()))
noncomputable def s0 (x : p0X) : Option (p0X ⊕ q0X) := bif decide (x.c < 19) then bindO (F22.m { c := x.c }) fun y => bif y then bindO (M70.m { m := x.m,n := 1,cls := x.c,cell := 0,other := 0 }) fun y => bif eqN x.out_lo 0 && eqN x.es.length x.out_len && roomB (x.out_len + 1) 3 then some (Sum.inl { m := x.m,out_lo := 0,out_len := x.out_len + 1,c := IntKind.u8.wrap (x.c + 1),es := x.es ++ [(x.c,false,y)] }) else none else bindO (M70.m { m := x.m,n := 2,cls := x.c,cell := 0,other := 1 }) fun y => bindO (M70.m { m := x.m,n := 2,cls := x.c,cell := 1,other := 0 }) fun y_1 => bif eqN x.out_lo 0 && eqN x.es.length x.out_len && roomB (x.out_len + 2) 3 then some (Sum.inl { m := x.m,out_lo := 0,out_len := x.out_len + 2,c := IntKind.u8.wrap (x.c + 1),es := x.es ++ [(x.c,false,y),(x.c,true,y_1)] }) else none
else some (Sum.inr { out_lo := x.out_lo,out_len := x.out_len,es := x.es })
theorem s0_eq (x : p0X) : exec E1 44 (C40.bodyAt 0) 1 (p0.R x) (p0.H x) (roundK 0 p0 (.exit 0) q0) = s0 x := by kernel_rfl
noncomputable def l0 : LoopS := mkLoop 0 p0 (.exit 0) q0 s0
theorem tl0 : topL (C40.bodyAt 0) 1 = [] := by kernel_rfl
theorem l0_ok  : LoopOkS Tryd.prog 44 none 0 (C40.bodyAt 0) l0 := mkLoop_ok mixed (env_ok ty_ok cl_ok _) (by trivial) (fun _ => rfl) (fun _ => rfl) (tl0 ▸ AllL.nil) s0_eq
noncomputable def E0 : Env := ⟨ty,cfOf cl,lpOf [(0,l0)],none⟩
noncomputable def m (x : gX) : Option fY := bindO (M19.m { m := x.m }) fun y => bif y != 0 then some ([],0,y) else bindO (iter s0 { m := x.m,out_lo := 0,out_len := 0,c := 0,es := [] }) fun y => bindO (M71.m { s_lo := y.out_lo,s_len := y.out_len,es := y.es }) fun y => bif leB (y.fst + y.snd.fst) y.snd.snd.snd.length && true && true && true then some (List.take y.snd.fst (List.drop y.fst y.snd.snd.snd),y.snd.snd.fst,0) else none
theorem m_eq (x : gX) : exec E0 44 C40 0 (initS 0 (g.A x)) (g.H x) (finish 0 ty [.tmp 2,.tmp 3] f) = m x := by kernel_rfl
theorem tl : topL C40 0 = [(0,C40.bodyAt 0)] := by kernel_rfl
theorem known : Known Tryd.prog 40 g f m :=
 mk_known mixed (env_ok ty_ok cl_ok _) s40 rfl rfl tl (AllL.cons rfl l0_ok AllL.nil) (fun _ _ => ⟨rfl,rfl⟩) (fun _ _ => ⟨rfl,rfl⟩) m_eq
noncomputable def con : Con := conT g f m default
theorem con_ok : ConOk Tryd.prog 40 con := conT_ok known (fun _ => rfl) rfl
end M40
namespace M68
structure gX where
 cls : Int
 above : Bool
 found : Bool
 c : Int
def g : Sg gX where
 vs := [.agg [.it .u8,.bo,.bo],.c (.ptr 0 0)]
 h := [.st [.it .u8] 1 0]
 to := fun a b => ⟨a.1.1,a.1.2.1,a.1.2.2.1,b.1.1⟩
 fa := fun x => ((x.cls,(x.above,(x.found,()))),((),()))
 fh := fun x => ((x.c,()),())
abbrev fY := Bool × Int
def f : Ft fY where
 ord := none
 sh := .c (.bo)
 h := [.st [.it .u8] 1 0]
 to := fun a b => (a,b.1.1)
 fv := fun y => y.1
 fh := fun y => ((y.2,()),())
def cl : List (FuncId × Con) := []
theorem cl_ok : allCon Tryd.prog cl := trivial
def E0 : Env := ⟨ty,cfOf cl,fun _ => none,none⟩
def m (x : gX) : Option fY := some (bif x.cls == x.c then !x.found else false,x.c)
theorem m_eq (x : gX) : exec E0 13 C68 0 (initS 0 (g.A x)) (g.H x) (finish 1 ty [.tmp 3] f) = m x := by kernel_rfl
theorem tl : topL C68 0 = [] := by kernel_rfl
theorem known : Known Tryd.prog 68 g f m :=
 mk_known mixed (env_ok ty_ok cl_ok _) s68 rfl rfl tl AllL.nil (fun _ _ => ⟨rfl,rfl⟩) (fun _ _ => ⟨rfl,rfl⟩) m_eq
def con : Con := conR g [.arg 1 0] f m default
theorem con_ok : ConOk Tryd.prog 68 con := conR_ok known (fun _ => rfl) (fun _ _ h => by unfold m at h; cases h; rfl)
end M68
namespace M91
structure gX where
 s : List ((Int) × (Bool) × Bool)
 c : Int
def g : Sg gX where
 vs := [.c (.arr (.pair (.int .u8) (.pair .bool .bool))),.c (.clo 68 [⟨0,0,0⟩])]
 h := [.st [.it .u8] 1 0]
 to := fun a b => ⟨a.1,b.1.1⟩
 fa := fun x => (x.s,((),()))
 fh := fun x => ((x.c,()),())
abbrev fY := Int × Int
def f : Ft fY where
 ord := none
 sh := .c (.it .i64)
 h := [.st [.it .u8] 1 0]
 to := fun a b => (a,b.1.1)
 fv := fun y => y.1
 fh := fun y => ((y.2,()),())
def cl : List (FuncId × Con) := [(68,M68.con)]
theorem cl_ok : allCon Tryd.prog cl := ⟨M68.con_ok,trivial⟩
def E1 : Env := ⟨ty,cfOf cl,fun _ => none,none⟩
structure p0X where
 s : List ((Int) × (Bool) × Bool)
 n : Int
 i : Int
 c : Int
def p0 : Pt p0X where
 own := []
 t := ⟨[(0,.c (.arr (.pair (.int .u8) (.pair .bool .bool)))),(1,.c (.clo 68 [⟨0,0,0⟩])),(7,.c (.it .i64)),(8,.c (.it .i64))],[.st [.it .u8] 1 0]⟩
 to := fun v => ⟨v.1.1,v.1.2.2.1,v.1.2.2.2.1,v.2.1.1⟩
 fr := fun x => ((x.s,((),(x.n,(x.i,())))),((x.c,()),()))
structure q0X where
 c : Int
def q0 : Pt q0X where
 own := []
 t := ⟨[],[.st [.it .u8] 1 0]⟩
 to := fun v => ⟨v.2.1.1⟩
 fr := fun x => ((),((x.c,()),()))
structure z0X where
 r : Int
 c : Int
def z0 : Pt z0X where
 own := []
 t := ⟨[(4,.c (.it .i64))],[.st [.it .u8] 1 0]⟩
 to := fun v => ⟨v.1.1,v.2.1.1⟩
 fr := fun x => ((x.r,()),((x.c,()),()))
def s0 (x : p0X) : Option (p0X ⊕ (q0X ⊕ z0X)) := bif decide (x.i < x.n) then bif inR x.i x.s.length then bindO (M68.m { cls := (x.s[x.i.toNat]?.getD (0,false,false)).fst,above := (x.s[x.i.toNat]?.getD (0,false,false)).snd.fst,found := (x.s[x.i.toNat]?.getD (0,false,false)).snd.snd,c := x.c }) fun y => bif y.fst then some (Sum.inr (Sum.inr { r := x.i,c := x.c })) else some (Sum.inl { s := x.s,n := x.n,i := IntKind.i64.wrap (x.i + 1),c := x.c }) else none
else some (Sum.inr (Sum.inl { c := x.c }))
theorem s0_eq (x : p0X) : exec E1 19 (C91.bodyAt 0) 1 (p0.R x) (p0.H x) (roundK2 1 p0 (.exit 0) q0 .ret z0) = s0 x := by kernel_rfl
noncomputable def l0 : LoopS := mkLoop2 1 p0 (.exit 0) q0 .ret z0 s0
theorem tl0 : topL (C91.bodyAt 0) 1 = [] := by kernel_rfl
theorem l0_ok  : LoopOkS Tryd.prog 19 none 1 (C91.bodyAt 0) l0 := mkLoop2_ok mixed (env_ok ty_ok cl_ok _) (by trivial) (by trivial) (fun _ => rfl) (fun _ => rfl) (fun _ => rfl) (tl0 ▸ AllL.nil) s0_eq
noncomputable def E0 : Env := ⟨ty,cfOf cl,lpOf [(0,l0)],none⟩
noncomputable def m (x : gX) : Option fY := bindO (iter s0 { s := x.s,n := (↑x.s.length : Int),i := 0,c := x.c }) fun s => sumC s (fun y => some (-1,y.c)) fun z => some (z.r,z.c)
theorem m_eq (x : gX) : exec E0 19 C91 0 (initS 0 (g.A x)) (g.H x) (finish 1 ty [.tmp 4] f) = m x := by kernel_rfl
theorem tl : topL C91 0 = [(0,C91.bodyAt 0)] := by kernel_rfl
theorem known : Known Tryd.prog 91 g f m :=
 mk_known mixed (env_ok ty_ok cl_ok _) s91 rfl rfl tl (AllL.cons rfl l0_ok AllL.nil) (fun _ _ => ⟨rfl,rfl⟩) (fun _ _ => ⟨rfl,rfl⟩) m_eq
theorem hh {x : gX} {y : fY} (h : m x = some y) : f.H y = g.H x := by
 unfold m at h
 obtain ⟨r,h1,h2⟩ := bindO_some h
 have h3 := iter_keep (fun z => z.c = x.c) (fun r => match r with | .inl y => y.c = x.c | .inr z => z.c = x.c) (fun z r hz hr => by
   unfold s0 at hr
   rcases cond_some hr with ⟨_,hr⟩ | ⟨_,hr⟩
   · rcases cond_some hr with ⟨_,hr⟩ | ⟨_,hr⟩
     · obtain ⟨b,_,hr⟩ := bindO_some hr
       rcases cond_some hr with ⟨_,hr⟩ | ⟨_,hr⟩ <;> (cases hr; exact hz)
     · cases hr
   · cases hr; exact hz) rfl h1
 rcases sumC_some h2 with ⟨z,rfl,h4⟩ | ⟨z,rfl,h4⟩ <;> (cases h4; show [SO.st [.it .u8 z.c] 1 0] = [SO.st [.it .u8 x.c] 1 0]; rw [h3])
noncomputable def con : Con := conR g [.arg 1 0] f m default
theorem con_ok : ConOk Tryd.prog 91 con := conR_ok known (fun _ => rfl) (fun _ _ h => by exact hh h)
end M91
namespace M67
structure gX where
 s : List ((Int) × (Bool) × Bool)
 c : Int
def g : Sg gX where
 vs := [.c (.arr (.pair (.int .u8) (.pair .bool .bool))),.c (.clo 68 [⟨0,0,0⟩])]
 h := [.st [.it .u8] 1 0]
 to := fun a b => ⟨a.1,b.1.1⟩
 fa := fun x => (x.s,((),()))
 fh := fun x => ((x.c,()),())
abbrev fY := Bool × Int
def f : Ft fY where
 ord := none
 sh := .c (.bo)
 h := [.st [.it .u8] 1 0]
 to := fun a b => (a,b.1.1)
 fv := fun y => y.1
 fh := fun y => ((y.2,()),())
noncomputable def cl : List (FuncId × Con) := [(91,M91.con)]
theorem cl_ok : allCon Tryd.prog cl := ⟨M91.con_ok,trivial⟩
noncomputable def E0 : Env := ⟨ty,cfOf cl,fun _ => none,none⟩
noncomputable def m (x : gX) : Option fY := bindO (M91.m { s := x.s,c := x.c }) fun y => some (decide (y.fst ≥ 0),x.c)
theorem m_eq (x : gX) : exec E0 9 C67 0 (initS 0 (g.A x)) (g.H x) (finish 1 ty [.tmp 4] f) = m x := by kernel_rfl
theorem tl : topL C67 0 = [] := by kernel_rfl
theorem known : Known Tryd.prog 67 g f m :=
 mk_known mixed (env_ok ty_ok cl_ok _) s67 rfl rfl tl AllL.nil (fun _ _ => ⟨rfl,rfl⟩) (fun _ _ => ⟨rfl,rfl⟩) m_eq
theorem hh {x : gX} {y : fY} (h : m x = some y) : f.H y = g.H x := by
 unfold m at h
 obtain ⟨r,h1,h2⟩ := bindO_some h
 cases h2; rfl
noncomputable def con : Con := conR g [.arg 1 0] f m default
theorem con_ok : ConOk Tryd.prog 67 con := conR_ok known (fun _ => rfl) (fun _ _ h => by exact hh h)
end M67
namespace M37
structure gX where
 m : List ((Int) × List ((Bool) × Int))
 c : Int
def g : Sg gX where
 vs := [.c (.arr (.pair (.int .u8) (.sl (.pair .bool (.int .u8))))),.c (.it .u8)]
 h := []
 to := fun a b => ⟨a.1,a.2.1⟩
 fa := fun x => (x.m,(x.c,()))
 fh := fun x => ()
abbrev fY := Bool × Int
def f : Ft fY where
 ord := none
 sh := .tup [.inl (.bo),.inl (.it .i64)]
 h := []
 to := fun a b => (a.1,a.2.1)
 fv := fun y => (y.1,(y.2,()))
 fh := fun y => ()
noncomputable def cl : List (FuncId × Con) := [(40,M40.con),(67,M67.con)]
theorem cl_ok : allCon Tryd.prog cl := ⟨M40.con_ok,M67.con_ok,trivial⟩
noncomputable def E0 : Env := ⟨ty,cfOf cl,fun _ => none,none⟩
noncomputable def m (x : gX) : Option fY := bindO (M40.m { m := x.m }) fun y => bif y.snd.snd != 0 then some (false,y.snd.snd) else bif decide (x.c ≥ 19) then some (false,1) else bindO (M67.m { s := y.fst,c := x.c }) fun y => some (!y.fst,0)
theorem m_eq (x : gX) : exec E0 24 C37 0 (initS 0 (g.A x)) (g.H x) (finish 0 ty [.tmp 4,.tmp 5] f) = m x := by kernel_rfl
theorem tl : topL C37 0 = [] := by kernel_rfl
theorem known : Known Tryd.prog 37 g f m :=
 mk_known mixed (env_ok ty_ok cl_ok _) s37 rfl rfl tl AllL.nil (fun _ _ => ⟨rfl,rfl⟩) (fun _ _ => ⟨rfl,rfl⟩) m_eq
noncomputable def con : Con := conT g f m default
theorem con_ok : ConOk Tryd.prog 37 con := conT_ok known (fun _ => rfl) rfl
end M37
end Go.Proofs.YtcnlccpihknehaaDoor
namespace Go.Proofs.YtcnlccpihknehaaDoor
open Go.Abs
set_option maxRecDepth 100000
namespace M65
structure gX where
 c : Int
def g : Sg gX where
 vs := [.c (.it .u8)]
 h := []
 to := fun a b => ⟨a.1⟩
 fa := fun x => (x.c,())
 fh := fun x => ()
abbrev fY := Bool
def f : Ft fY where
 ord := none
 sh := .c (.bo)
 h := []
 to := fun a b => (a)
 fv := fun y => y
 fh := fun y => ()
def cl : List (FuncId × Con) := []
theorem cl_ok : allCon Tryd.prog cl := trivial
def E0 : Env := ⟨ty,cfOf cl,fun _ => none,none⟩
def m (x : gX) : Option fY := some (decide (x.c ≥ 19))
theorem m_eq (x : gX) : exec E0 5 C65 0 (initS 0 (g.A x)) (g.H x) (finish 0 ty [.tmp 2] f) = m x := by kernel_rfl
theorem tl : topL C65 0 = [] := by kernel_rfl
theorem known : Known Tryd.prog 65 g f m :=
 mk_known mixed (env_ok ty_ok cl_ok _) s65 rfl rfl tl AllL.nil (fun _ _ => ⟨rfl,rfl⟩) (fun _ _ => ⟨rfl,rfl⟩) m_eq
def con : Con := conT g f m default
theorem con_ok : ConOk Tryd.prog 65 con := conT_ok known (fun _ => rfl) rfl
end M65
namespace M90a
structure gX where
 s : List (Int)
def g : Sg gX where
 vs := [.c (.arr (.int .u8)),.c (.fn 65)]
 h := []
 to := fun a b => ⟨a.1⟩
 fa := fun x => (x.s,((),()))
 fh := fun x => ()
abbrev fY := Int
def f : Ft fY where
 ord := none
 sh := .c (.it .i64)
 h := []
 to := fun a b => (a)
 fv := fun y => y
 fh := fun y => ()
def cl : List (FuncId × Con) := [(65,M65.con)]
theorem cl_ok : allCon Tryd.prog cl := ⟨M65.con_ok,trivial⟩
def E1 : Env := ⟨ty,cfOf cl,fun _ => none,none⟩
structure p0X where
 s : List (Int)
 n : Int
 i : Int
def p0 : Pt p0X where
 own := []
 t := ⟨[(0,.c (.arr (.int .u8))),(1,.c (.fn 65)),(7,.c (.it .i64)),(8,.c (.it .i64))],[]⟩
 to := fun v => ⟨v.1.1,v.1.2.2.1,v.1.2.2.2.1⟩
 fr := fun x => ((x.s,((),(x.n,(x.i,())))),())
abbrev q0X := Unit
def q0 : Pt q0X where
 own := []
 t := ⟨[],[]⟩
 to := fun v => ()
 fr := fun x => ((),())
structure z0X where
 r : Int
def z0 : Pt z0X where
 own := []
 t := ⟨[(4,.c (.it .i64))],[]⟩
 to := fun v => ⟨v.1.1⟩
 fr := fun x => ((x.r,()),())
def s0 (x : p0X) : Option (p0X ⊕ (q0X ⊕ z0X)) := bif decide (x.i < x.n) then bif inR x.i x.s.length then bindO (M65.m { c := x.s[x.i.toNat]?.getD 0 }) fun y => bif y then some (Sum.inr (Sum.inr { r := x.i })) else some (Sum.inl { s := x.s,n := x.n,i := IntKind.i64.wrap (x.i + 1) }) else none
else some (Sum.inr (Sum.inl PUnit.unit))
theorem s0_eq (x : p0X) : exec E1 19 (C90.bodyAt 0) 1 (p0.R x) (p0.H x) (roundK2 0 p0 (.exit 0) q0 .ret z0) = s0 x := by kernel_rfl
noncomputable def l0 : LoopS := mkLoop2 0 p0 (.exit 0) q0 .ret z0 s0
theorem tl0 : topL (C90.bodyAt 0) 1 = [] := by kernel_rfl
theorem l0_ok  : LoopOkS Tryd.prog 19 none 0 (C90.bodyAt 0) l0 := mkLoop2_ok mixed (env_ok ty_ok cl_ok _) (by trivial) (by trivial) (fun _ => rfl) (fun _ => rfl) (fun _ => rfl) (tl0 ▸ AllL.nil) s0_eq
noncomputable def E0 : Env := ⟨ty,cfOf cl,lpOf [(0,l0)],none⟩
noncomputable def m (x : gX) : Option fY := bindO (iter s0 { s := x.s,n := (↑x.s.length : Int),i := 0 }) fun s => sumC s (fun y => some (-1)) fun z => some z.r
theorem m_eq (x : gX) : exec E0 19 C90 0 (initS 0 (g.A x)) (g.H x) (finish 0 ty [.tmp 4] f) = m x := by kernel_rfl
theorem tl : topL C90 0 = [(0,C90.bodyAt 0)] := by kernel_rfl
theorem known : Known Tryd.prog 90 g f m :=
 mk_known mixed (env_ok ty_ok cl_ok _) s90 rfl rfl tl (AllL.cons rfl l0_ok AllL.nil) (fun _ _ => ⟨rfl,rfl⟩) (fun _ _ => ⟨rfl,rfl⟩) m_eq
noncomputable def con : Con := conT g f m default
theorem con_ok : ConOk Tryd.prog 90 con := conT_ok known (fun _ => rfl) rfl
end M90a
namespace M64a
structure gX where
 s : List (Int)
def g : Sg gX where
 vs := [.c (.arr (.int .u8)),.c (.fn 65)]
 h := []
 to := fun a b => ⟨a.1⟩
 fa := fun x => (x.s,((),()))
 fh := fun x => ()
abbrev fY := Bool
def f : Ft fY where
 ord := none
 sh := .c (.bo)
 h := []
 to := fun a b => (a)
 fv := fun y => y
 fh := fun y => ()
noncomputable def cl : List (FuncId × Con) := [(90,M90a.con)]
theorem cl_ok : allCon Tryd.prog cl := ⟨M90a.con_ok,trivial⟩
noncomputable def E0 : Env := ⟨ty,cfOf cl,fun _ => none,none⟩
noncomputable def m (x : gX) : Option fY := bindO (M90a.m { s := x.s }) fun y => some (decide (y ≥ 0))
theorem m_eq (x : gX) : exec E0 9 C64 0 (initS 0 (g.A x)) (g.H x) (finish 0 ty [.tmp 4] f) = m x := by kernel_rfl
theorem tl : topL C64 0 = [] := by kernel_rfl
theorem known : Known Tryd.prog 64 g f m :=
 mk_known mixed (env_ok ty_ok cl_ok _) s64 rfl rfl tl AllL.nil (fun _ _ => ⟨rfl,rfl⟩) (fun _ _ => ⟨rfl,rfl⟩) m_eq
noncomputable def con : Con := conT g f m default
theorem con_ok : ConOk Tryd.prog 64 con := conT_ok known (fun _ => rfl) rfl
end M64a
namespace M66
structure gX where
 c : Int
 m : List ((Int) × List ((Bool) × Int))
def g : Sg gX where
 vs := [.c (.it .u8),.c (.ptr 0 0)]
 h := [.st [.arr (.pair (.int .u8) (.sl (.pair .bool (.int .u8))))] 1 0]
 to := fun a b => ⟨a.1,b.1.1⟩
 fa := fun x => (x.c,((),()))
 fh := fun x => ((x.m,()),())
abbrev fY := Bool × (List ((Int) × List ((Bool) × Int)))
def f : Ft fY where
 ord := none
 sh := .c (.bo)
 h := [.st [.arr (.pair (.int .u8) (.sl (.pair .bool (.int .u8))))] 1 0]
 to := fun a b => (a,b.1.1)
 fv := fun y => y.1
 fh := fun y => ((y.2,()),())
noncomputable def cl : List (FuncId × Con) := [(37,M37.con)]
theorem cl_ok : allCon Tryd.prog cl := ⟨M37.con_ok,trivial⟩
noncomputable def E0 : Env := ⟨ty,cfOf cl,fun _ => none,none⟩
noncomputable def m (x : gX) : Option fY := bindO (M37.m { m := x.m,c := x.c }) fun y => some (bif !y.fst then true else y.snd != 0,x.m)
theorem m_eq (x : gX) : exec E0 18 C66 0 (initS 0 (g.A x)) (g.H x) (finish 1 ty [.tmp 3] f) = m x := by kernel_rfl
theorem tl : topL C66 0 = [] := by kernel_rfl
theorem known : Known Tryd.prog 66 g f m :=
 mk_known mixed (env_ok ty_ok cl_ok _) s66 rfl rfl tl AllL.nil (fun _ _ => ⟨rfl,rfl⟩) (fun _ _ => ⟨rfl,rfl⟩) m_eq
theorem hh {x : gX} {y : fY} (h : m x = some y) : f.H y = g.H x := by
 unfold m at h
 obtain ⟨r,h1,h2⟩ := bindO_some h
 cases h2; rfl
noncomputable def con : Con := conR g [.arg 1 0] f m default
theorem con_ok : ConOk Tryd.prog 66 con := conR_ok known (fun _ => rfl) (fun _ _ h => by exact hh h)
end M66
namespace M90b
structure gX where
 s : List (Int)
 m : List ((Int) × List ((Bool) × Int))
def g : Sg gX where
 vs := [.c (.arr (.int .u8)),.c (.clo 66 [⟨0,0,0⟩])]
 h := [.st [.arr (.pair (.int .u8) (.sl (.pair .bool (.int .u8))))] 1 0]
 to := fun a b => ⟨a.1,b.1.1⟩
 fa := fun x => (x.s,((),()))
 fh := fun x => ((x.m,()),())
abbrev fY := Int × (List ((Int) × List ((Bool) × Int)))
def f : Ft fY where
 ord := none
 sh := .c (.it .i64)
 h := [.st [.arr (.pair (.int .u8) (.sl (.pair .bool (.int .u8))))] 1 0]
 to := fun a b => (a,b.1.1)
 fv := fun y => y.1
 fh := fun y => ((y.2,()),())
noncomputable def cl : List (FuncId × Con) := [(66,M66.con)]
theorem cl_ok : allCon Tryd.prog cl := ⟨M66.con_ok,trivial⟩
noncomputable def E1 : Env := ⟨ty,cfOf cl,fun _ => none,none⟩
structure p0X where
 s : List (Int)
 n : Int
 i : Int
 m : List ((Int) × List ((Bool) × Int))
def p0 : Pt p0X where
 own := []
 t := ⟨[(0,.c (.arr (.int .u8))),(1,.c (.clo 66 [⟨0,0,0⟩])),(7,.c (.it .i64)),(8,.c (.it .i64))],[.st [.arr (.pair (.int .u8) (.sl (.pair .bool (.int .u8))))] 1 0]⟩
 to := fun v => ⟨v.1.1,v.1.2.2.1,v.1.2.2.2.1,v.2.1.1⟩
 fr := fun x => ((x.s,((),(x.n,(x.i,())))),((x.m,()),()))
structure q0X where
 m : List ((Int) × List ((Bool) × Int))
def q0 : Pt q0X where
 own := []
 t := ⟨[],[.st [.arr (.pair (.int .u8) (.sl (.pair .bool (.int .u8))))] 1 0]⟩
 to := fun v => ⟨v.2.1.1⟩
 fr := fun x => ((),((x.m,()),()))
structure z0X where
 r : Int
 m : List ((Int) × List ((Bool) × Int))
def z0 : Pt z0X where
 own := []
 t := ⟨[(4,.c (.it .i64))],[.st [.arr (.pair (.int .u8) (.sl (.pair .bool (.int .u8))))] 1 0]⟩
 to := fun v => ⟨v.1.1,v.2.1.1⟩
 fr := fun x => ((x.r,()),((x.m,()),()))
noncomputable def s0 (x : p0X) : Option (p0X ⊕ (q0X ⊕ z0X)) := bif decide (x.i < x.n) then bif inR x.i x.s.length then bindO (M66.m { c := x.s[x.i.toNat]?.getD 0,m := x.m }) fun y => bif y.fst then some (Sum.inr (Sum.inr { r := x.i,m := x.m })) else some (Sum.inl { s := x.s,n := x.n,i := IntKind.i64.wrap (x.i + 1),m := x.m }) else none
else some (Sum.inr (Sum.inl { m := x.m }))
theorem s0_eq (x : p0X) : exec E1 19 (C90.bodyAt 0) 1 (p0.R x) (p0.H x) (roundK2 1 p0 (.exit 0) q0 .ret z0) = s0 x := by kernel_rfl
noncomputable def l0 : LoopS := mkLoop2 1 p0 (.exit 0) q0 .ret z0 s0
theorem tl0 : topL (C90.bodyAt 0) 1 = [] := by kernel_rfl
theorem l0_ok  : LoopOkS Tryd.prog 19 none 1 (C90.bodyAt 0) l0 := mkLoop2_ok mixed (env_ok ty_ok cl_ok _) (by trivial) (by trivial) (fun _ => rfl) (fun _ => rfl) (fun _ => rfl) (tl0 ▸ AllL.nil) s0_eq
noncomputable def E0 : Env := ⟨ty,cfOf cl,lpOf [(0,l0)],none⟩
noncomputable def m (x : gX) : Option fY := bindO (iter s0 { s := x.s,n := (↑x.s.length : Int),i := 0,m := x.m }) fun s => sumC s (fun y => some (-1,y.m)) fun z => some (z.r,z.m)
theorem m_eq (x : gX) : exec E0 19 C90 0 (initS 0 (g.A x)) (g.H x) (finish 1 ty [.tmp 4] f) = m x := by kernel_rfl
theorem tl : topL C90 0 = [(0,C90.bodyAt 0)] := by kernel_rfl
theorem known : Known Tryd.prog 90 g f m :=
 mk_known mixed (env_ok ty_ok cl_ok _) s90 rfl rfl tl (AllL.cons rfl l0_ok AllL.nil) (fun _ _ => ⟨rfl,rfl⟩) (fun _ _ => ⟨rfl,rfl⟩) m_eq
theorem hh {x : gX} {y : fY} (h : m x = some y) : f.H y = g.H x := by
 unfold m at h
 obtain ⟨r,h1,h2⟩ := bindO_some h
 have h3 := iter_keep (fun z => z.m = x.m) (fun r => match r with | .inl y => y.m = x.m | .inr z => z.m = x.m) (fun z r hz hr => by
   unfold s0 at hr
   rcases cond_some hr with ⟨_,hr⟩ | ⟨_,hr⟩
   · rcases cond_some hr with ⟨_,hr⟩ | ⟨_,hr⟩
     · obtain ⟨b,_,hr⟩ := bindO_some hr
       rcases cond_some hr with ⟨_,hr⟩ | ⟨_,hr⟩ <;> (cases hr; exact hz)
     · cases hr
   · cases hr; exact hz) rfl h1
 rcases sumC_some h2 with ⟨z,rfl,h4⟩ | ⟨z,rfl,h4⟩ <;> (cases h4; show [SO.st [.arr (.pair (.int .u8) (.sl (.pair .bool (.int .u8)))) z.m none] 1 0] = [SO.st [.arr (.pair (.int .u8) (.sl (.pair .bool (.int .u8)))) x.m none] 1 0]; rw [h3])
noncomputable def con : Con := conR g [.arg 1 0] f m default
theorem con_ok : ConOk Tryd.prog 90 con := conR_ok known (fun _ => rfl) (fun _ _ h => by exact hh h)
end M90b
namespace M64b
structure gX where
 s : List (Int)
 m : List ((Int) × List ((Bool) × Int))
def g : Sg gX where
 vs := [.c (.arr (.int .u8)),.c (.clo 66 [⟨0,0,0⟩])]
 h := [.st [.arr (.pair (.int .u8) (.sl (.pair .bool (.int .u8))))] 1 0]
 to := fun a b => ⟨a.1,b.1.1⟩
 fa := fun x => (x.s,((),()))
 fh := fun x => ((x.m,()),())
abbrev fY := Bool × (List ((Int) × List ((Bool) × Int)))
def f : Ft fY where
 ord := none
 sh := .c (.bo)
 h := [.st [.arr (.pair (.int .u8) (.sl (.pair .bool (.int .u8))))] 1 0]
 to := fun a b => (a,b.1.1)
 fv := fun y => y.1
 fh := fun y => ((y.2,()),())
noncomputable def cl : List (FuncId × Con) := [(90,M90b.con)]
theorem cl_ok : allCon Tryd.prog cl := ⟨M90b.con_ok,trivial⟩
noncomputable def E0 : Env := ⟨ty,cfOf cl,fun _ => none,none⟩
noncomputable def m (x : gX) : Option fY := bindO (M90b.m { s := x.s,m := x.m }) fun y => some (decide (y.fst ≥ 0),x.m)
theorem m_eq (x : gX) : exec E0 9 C64 0 (initS 0 (g.A x)) (g.H x) (finish 1 ty [.tmp 4] f) = m x := by kernel_rfl
theorem tl : topL C64 0 = [] := by kernel_rfl
theorem known : Known Tryd.prog 64 g f m :=
 mk_known mixed (env_ok ty_ok cl_ok _) s64 rfl rfl tl AllL.nil (fun _ _ => ⟨rfl,rfl⟩) (fun _ _ => ⟨rfl,rfl⟩) m_eq
theorem hh {x : gX} {y : fY} (h : m x = some y) : f.H y = g.H x := by
 unfold m at h
 obtain ⟨r,h1,h2⟩ := bindO_some h
 cases h2; rfl
noncomputable def con : Con := conR g [.arg 1 0] f m default
theorem con_ok : ConOk Tryd.prog 64 con := conR_ok known (fun _ => rfl) (fun _ _ h => by exact hh h)
end M64b
namespace M36
structure gX where
 l : List (List ((Int) × List ((Bool) × Int)))
 want : List (Int)
def g : Sg gX where
 vs := [.c (.arr (.sl (.pair (.int .u8) (.sl (.pair .bool (.int .u8)))))),.c (.arr (.int .u8))]
 h := []
 to := fun a b => ⟨a.1,a.2.1⟩
 fa := fun x => (x.l,(x.want,()))
 fh := fun x => ()
abbrev fY := Int × Int
def f : Ft fY where
 ord := none
 sh := .tup [.inl (.it .i64),.inl (.it .i64)]
 h := []
 to := fun a b => (a.1,a.2.1)
 fv := fun y => (y.1,(y.2,()))
 fh := fun y => ()
noncomputable def cl : List (FuncId × Con) := [(64,M64a.con),(64,M64b.con),(23,M23.con),(19,M19.con)]
theorem cl_ok : allCon Tryd.prog cl := ⟨M64a.con_ok,M64b.con_ok,M23.con_ok,M19.con_ok,trivial⟩
noncomputable def E1 : Env := ⟨ty,cfOf cl,fun _ => none,none⟩
structure p0X where
 l : List (List ((Int) × List ((Bool) × Int)))
 want : List (Int)
 best : Int
 l2 : List (List ((Int) × List ((Bool) × Int)))
 n : Int
 i : Int
def p0 : Pt p0X where
 own := []
 t := ⟨[(0,.c (.arr (.sl (.pair (.int .u8) (.sl (.pair .bool (.int .u8))))))),(1,.c (.arr (.int .u8))),(6,.c (.it .i64)),(12,.c (.arr (.sl (.pair (.int .u8) (.sl (.pair .bool (.int .u8))))))),(13,.c (.it .i64)),(14,.c (.it .i64))],[]⟩
 to := fun v => ⟨v.1.1,v.1.2.1,v.1.2.2.1,v.1.2.2.2.1,v.1.2.2.2.2.1,v.1.2.2.2.2.2.1⟩
 fr := fun x => ((x.l,(x.want,(x.best,(x.l2,(x.n,(x.i,())))))),())
structure q0X where
 best : Int
def q0 : Pt q0X where
 own := []
 t := ⟨[(6,.c (.it .i64))],[]⟩
 to := fun v => ⟨v.1.1⟩
 fr := fun x => ((x.best,()),())
noncomputable def s0 (x : p0X) : Option (p0X ⊕ q0X) := bif decide (x.i < x.n) then bif inR x.i x.l2.length then bindO (bif decide (x.best ≥ 0) then M23.m { m := x.l2[x.i.toNat]?.getD [] } else some (Int.ofNat 0)) fun y => bif inR x.best x.l.length || !decide (x.best ≥ 0) then bindO (bif decide (x.best ≥ 0) then M23.m { m := x.l[x.best.toNat]?.getD [] } else some (Int.ofNat 0)) fun y_1 => bif bif decide (x.best ≥ 0) then decide (y ≥ y_1) else false then some (Sum.inl { l := x.l,want := x.want,best := x.best,l2 := x.l2,n := x.n,i := IntKind.i64.wrap (x.i + 1) }) else bindO (M19.m { m := x.l2[x.i.toNat]?.getD [] }) fun y => bindO (bif y == 0 then M64b.m { s := x.want,m := x.l2[x.i.toNat]?.getD [] } else some (false,[])) fun y_2 => some (Sum.inl { l := x.l,want := x.want,best := bif bif y == 0 then !y_2.fst else false then x.i else x.best,l2 := x.l2,n := x.n,i := IntKind.i64.wrap (x.i + 1) }) else none else none
else some (Sum.inr { best := x.best })
theorem s0_eq (x : p0X) : exec E1 44 (C36.bodyAt 0) 1 (p0.R x) (p0.H x) (roundK 0 p0 (.exit 0) q0) = s0 x := by kernel_rfl
noncomputable def l0 : LoopS := mkLoop 0 p0 (.exit 0) q0 s0
theorem tl0 : topL (C36.bodyAt 0) 1 = [] := by kernel_rfl
theorem l0_ok  : LoopOkS Tryd.prog 44 none 0 (C36.bodyAt 0) l0 := mkLoop_ok mixed (env_ok ty_ok cl_ok _) (by trivial) (fun _ => rfl) (fun _ => rfl) (tl0 ▸ AllL.nil) s0_eq
noncomputable def E0 : Env := ⟨ty,cfOf cl,lpOf [(0,l0)],none⟩
noncomputable def m (x : gX) : Option fY := bindO (M64a.m { s := x.want }) fun y => bif y then some (0,1) else bindO (iter s0 { l := x.l,want := x.want,best := -1,l2 := x.l,n := (↑x.l.length : Int),i := 0 }) fun y => some (y.best,0)
theorem m_eq (x : gX) : exec E0 44 C36 0 (initS 0 (g.A x)) (g.H x) (finish 0 ty [.tmp 4,.tmp 5] f) = m x := by kernel_rfl
theorem tl : topL C36 0 = [(0,C36.bodyAt 0)] := by kernel_rfl
theorem known : Known Tryd.prog 36 g f m :=
 mk_known mixed (env_ok ty_ok cl_ok _) s36 rfl rfl tl (AllL.cons rfl l0_ok AllL.nil) (fun _ _ => ⟨rfl,rfl⟩) (fun _ _ => ⟨rfl,rfl⟩) m_eq
noncomputable def con : Con := conT g f m default
theorem con_ok : ConOk Tryd.prog 36 con := conT_ok known (fun _ => rfl) rfl
end M36
end Go.Proofs.YtcnlccpihknehaaDoor
