/-
  What the proof stands on.
-/
import Derived.Test.YtnmlmdlhhphcoaaER4QE9
import Derived.Test.YtnmlmdlhhphcoaaER4QEj
set_option linter.all false
namespace Go.Proofs.Ytnmlmdlhhphcoaa
open Go.Abs
set_option maxRecDepth 100000
namespace M32
structure gX where
 l : List (Int)
def g : Sg gX where
 vs := [.c (.arr (.int .u8))]
 h := []
 to := fun a b => ⟨a.1⟩
 fa := fun x => (x.l,())
 fh := fun x => ()
abbrev fY := List (Int)
def f : Ft fY where
 ord := none
 sh := .c (.arr (.int .u8))
 h := []
 to := fun a b => (a)
 fv := fun y => y
 fh := fun y => ()
def cl : List (FuncId × Con) := []
theorem cl_ok : allCon Try.prog cl := trivial
def E1 : Env := ⟨ty,cfOf cl,fun _ => none,none⟩
structure p0X where
 l : List (Int)
 out_lo : Nat
 out_len : Nat
 i : Int
 xs : List (Int)
def p0 : Pt p0X where
 own := [.reg 3 (.int .u8)]
 t := ⟨[(0,.c (.arr (.int .u8))),(3,.c (.sl 0 0 1)),(4,.c (.it .i64))],[.arr (.int .u8) 0]⟩
 to := fun v => ⟨v.1.1,v.1.2.1.1,v.1.2.1.2,v.1.2.2.1,v.2.1⟩
 fr := fun x => ((x.l,((x.out_lo,x.out_len),(x.i,()))),(x.xs,()))
structure q0X where
 out_lo : Nat
 out_len : Nat
 xs : List (Int)
def q0 : Pt q0X where
 own := []
 t := ⟨[(3,.c (.sl 0 0 1))],[.arr (.int .u8) 0]⟩
 to := fun v => ⟨v.1.1.1,v.1.1.2,v.2.1⟩
 fr := fun x => (((x.out_lo,x.out_len),()),(x.xs,()))
def s0 (x : p0X) : Option (p0X ⊕ q0X) := bif decide (x.i < (↑x.l.length : Int)) then bif inR x.i x.l.length then bif eqN x.out_lo 0 && eqN x.xs.length x.out_len && roomB (x.out_len + 1) 1 then some (Sum.inl { l := x.l,out_lo := 0,out_len := x.out_len + 1,i := IntKind.i64.wrap (x.i + 1),xs := x.xs ++ [Int.tmod (x.l[x.i.toNat]?.getD 0) 3] }) else none else none
else some (Sum.inr { out_lo := x.out_lo,out_len := x.out_len,xs := x.xs })
theorem s0_eq (x : p0X) : exec E1 20 (C32.bodyAt 0) 1 (p0.R x) (p0.H x) (roundK 0 p0 (.exit 0) q0) = s0 x := by kernel_rfl
noncomputable def l0 : LoopS := mkLoop 0 p0 (.exit 0) q0 s0
theorem tl0 : topL (C32.bodyAt 0) 1 = [] := by kernel_rfl
theorem l0_ok  : LoopOkS Try.prog 20 none 0 (C32.bodyAt 0) l0 := mkLoop_ok mixed (env_ok ty_ok cl_ok _) (by trivial) (fun _ => rfl) (fun _ => rfl) (tl0 ▸ AllL.nil) s0_eq
noncomputable def E0 : Env := ⟨ty,cfOf cl,lpOf [(0,l0)],none⟩
noncomputable def m (x : gX) : Option fY := bindO (iter s0 { l := x.l,out_lo := 0,out_len := 0,i := 0,xs := [] }) fun y => bif leB (y.out_lo + y.out_len) y.xs.length && true && true then some (List.take y.out_len (List.drop y.out_lo y.xs)) else none
theorem m_eq (x : gX) : exec E0 20 C32 0 (initS 0 (g.A x)) (g.H x) (finish 0 ty [.tmp 2] f) = m x := by kernel_rfl
theorem tl : topL C32 0 = [(0,C32.bodyAt 0)] := by kernel_rfl
theorem known : Known Try.prog 32 g f m :=
 mk_known mixed (env_ok ty_ok cl_ok _) s32 rfl rfl tl (AllL.cons rfl l0_ok AllL.nil) (fun _ _ => ⟨rfl,rfl⟩) (fun _ _ => ⟨rfl,rfl⟩) m_eq
noncomputable def con : Con := conT g f m default
theorem con_ok : ConOk Try.prog 32 con := conT_ok known (fun _ => rfl) rfl
end M32
namespace M11
structure gX where
 i : List (Int)
 s : List (Int)
def g : Sg gX where
 vs := [.agg [.arr (.int .u8),.arr (.int .u8)]]
 h := []
 to := fun a b => ⟨a.1.1,a.1.2.1⟩
 fa := fun x => ((x.i,(x.s,())),())
 fh := fun x => ()
abbrev fY := List (Int) × List (Int)
def f : Ft fY where
 ord := none
 sh := .agg [.arr (.int .u8),.arr (.int .u8)]
 h := []
 to := fun a b => (a.1,a.2.1)
 fv := fun y => (y.1,(y.2,()))
 fh := fun y => ()
noncomputable def cl : List (FuncId × Con) := [(32,M32.con)]
theorem cl_ok : allCon Try.prog cl := ⟨M32.con_ok,trivial⟩
noncomputable def E0 : Env := ⟨ty,cfOf cl,fun _ => none,none⟩
noncomputable def m (x : gX) : Option fY := bindO (M32.m { l := x.i }) fun y => bindO (M32.m { l := x.s }) fun y_1 => some (y,y_1)
theorem m_eq (x : gX) : exec E0 10 C11 0 (initS 0 (g.A x)) (g.H x) (finish 0 ty [.cell 2 29] f) = m x := by kernel_rfl
theorem tl : topL C11 0 = [] := by kernel_rfl
theorem known : Known Try.prog 11 g f m :=
 mk_known mixed (env_ok ty_ok cl_ok _) s11 rfl rfl tl AllL.nil (fun _ _ => ⟨rfl,rfl⟩) (fun _ _ => ⟨rfl,rfl⟩) m_eq
noncomputable def con : Con := conT g f m default
theorem con_ok : ConOk Try.prog 11 con := conT_ok known (fun _ => rfl) rfl
end M11
namespace M14
structure gX where
 i : List (Int)
 s : List (Int)
def g : Sg gX where
 vs := [.agg [.arr (.int .u8),.arr (.int .u8)]]
 h := []
 to := fun a b => ⟨a.1.1,a.1.2.1⟩
 fa := fun x => ((x.i,(x.s,())),())
 fh := fun x => ()
abbrev fY := List (Int)
def f : Ft fY where
 ord := none
 sh := .c (.arr (.int .u8))
 h := []
 to := fun a b => (a)
 fv := fun y => y
 fh := fun y => ()
def cl : List (FuncId × Con) := []
theorem cl_ok : allCon Try.prog cl := trivial
def E0 : Env := ⟨ty,cfOf cl,fun _ => none,none⟩
def m (x : gX) : Option fY := bif roomB x.i.length 1 then bif eqN x.i.length x.i.length && roomB (x.i.length + x.s.length) 1 then bif leB (0 + (x.i.length + x.s.length)) (x.i ++ x.s).length && true && true then some (List.take (x.i.length + x.s.length) (List.drop 0 (x.i ++ x.s))) else none else none
else none
theorem m_eq (x : gX) : exec E0 10 C14 0 (initS 0 (g.A x)) (g.H x) (finish 0 ty [.tmp 2] f) = m x := by kernel_rfl
theorem tl : topL C14 0 = [] := by kernel_rfl
theorem known : Known Try.prog 14 g f m :=
 mk_known mixed (env_ok ty_ok cl_ok _) s14 rfl rfl tl AllL.nil (fun _ _ => ⟨rfl,rfl⟩) (fun _ _ => ⟨rfl,rfl⟩) m_eq
def con : Con := conT g f m default
theorem con_ok : ConOk Try.prog 14 con := conT_ok known (fun _ => rfl) rfl
end M14
namespace M9
structure gX where
 most : Int
 l : List ((List (Int)) × List (Int))
def g : Sg gX where
 vs := [.c (.it .i64),.c (.arr (.pair (.sl (.int .u8)) (.sl (.int .u8))))]
 h := []
 to := fun a b => ⟨a.1,a.2.1⟩
 fa := fun x => (x.most,(x.l,()))
 fh := fun x => ()
abbrev fY := Bool
def f : Ft fY where
 ord := none
 sh := .c (.bo)
 h := []
 to := fun a b => (a)
 fv := fun y => y
 fh := fun y => ()
def cl : List (FuncId × Con) := []
theorem cl_ok : allCon Try.prog cl := trivial
def E1 : Env := ⟨ty,cfOf cl,fun _ => none,none⟩
structure p0X where
 most : Int
 l : List ((List (Int)) × List (Int))
 i : Int
def p0 : Pt p0X where
 own := []
 t := ⟨[(0,.c (.it .i64)),(1,.c (.arr (.pair (.sl (.int .u8)) (.sl (.int .u8))))),(5,.c (.it .i64))],[]⟩
 to := fun v => ⟨v.1.1,v.1.2.1,v.1.2.2.1⟩
 fr := fun x => ((x.most,(x.l,(x.i,()))),())
abbrev q0X := Unit
def q0 : Pt q0X where
 own := []
 t := ⟨[],[]⟩
 to := fun v => ()
 fr := fun x => ((),())
structure z0X where
 r : Bool
def z0 : Pt z0X where
 own := []
 t := ⟨[(4,.c (.bo))],[]⟩
 to := fun v => ⟨v.1.1⟩
 fr := fun x => ((x.r,()),())
def s0 (x : p0X) : Option (p0X ⊕ (q0X ⊕ z0X)) := bif decide (x.i < (↑x.l.length : Int)) then bif inR x.i x.l.length then bif inR x.i x.l.length || !!decide ((↑(List.length (x.l[x.i.toNat]?.getD ([],[])).fst) : Int) > x.most) then bif inR x.i x.l.length || !!bif decide ((↑(List.length (x.l[x.i.toNat]?.getD ([],[])).fst) : Int) > x.most) then true else decide ((↑(List.length (x.l[x.i.toNat]?.getD ([],[])).snd) : Int) > x.most) then bif inR x.i x.l.length || !!bif decide ((↑(List.length (x.l[x.i.toNat]?.getD ([],[])).fst) : Int) > x.most) then true else decide ((↑(List.length (x.l[x.i.toNat]?.getD ([],[])).snd) : Int) > x.most) then bif bif bif decide ((↑(List.length (x.l[x.i.toNat]?.getD ([],[])).fst) : Int) > x.most) then true else decide ((↑(List.length (x.l[x.i.toNat]?.getD ([],[])).snd) : Int) > x.most) then true else decide (IntKind.i64.wrap ((↑(List.length (x.l[x.i.toNat]?.getD ([],[])).fst) : Int) + (↑(List.length (x.l[x.i.toNat]?.getD ([],[])).snd) : Int)) > x.most) then some (Sum.inr (Sum.inr { r := false })) else some (Sum.inl { most := x.most,l := x.l,i := IntKind.i64.wrap (x.i + 1) }) else none else none else none else none
else some (Sum.inr (Sum.inl PUnit.unit))
theorem s0_eq (x : p0X) : exec E1 47 (C9.bodyAt 0) 1 (p0.R x) (p0.H x) (roundK2 0 p0 (.exit 0) q0 .ret z0) = s0 x := by kernel_rfl
noncomputable def l0 : LoopS := mkLoop2 0 p0 (.exit 0) q0 .ret z0 s0
theorem tl0 : topL (C9.bodyAt 0) 1 = [] := by kernel_rfl
theorem l0_ok  : LoopOkS Try.prog 47 none 0 (C9.bodyAt 0) l0 := mkLoop2_ok mixed (env_ok ty_ok cl_ok _) (by trivial) (by trivial) (fun _ => rfl) (fun _ => rfl) (fun _ => rfl) (tl0 ▸ AllL.nil) s0_eq
noncomputable def E0 : Env := ⟨ty,cfOf cl,lpOf [(0,l0)],none⟩
noncomputable def m (x : gX) : Option fY := bindO (iter s0 { most := x.most,l := x.l,i := 0 }) fun s => sumC s (fun y => some true) fun z => some z.r
theorem m_eq (x : gX) : exec E0 47 C9 0 (initS 0 (g.A x)) (g.H x) (finish 0 ty [.tmp 4] f) = m x := by kernel_rfl
theorem tl : topL C9 0 = [(0,C9.bodyAt 0)] := by kernel_rfl
theorem known : Known Try.prog 9 g f m :=
 mk_known mixed (env_ok ty_ok cl_ok _) s9 rfl rfl tl (AllL.cons rfl l0_ok AllL.nil) (fun _ _ => ⟨rfl,rfl⟩) (fun _ _ => ⟨rfl,rfl⟩) m_eq
noncomputable def con : Con := conT g f m default
theorem con_ok : ConOk Try.prog 9 con := conT_ok known (fun _ => rfl) rfl
end M9
end Go.Proofs.Ytnmlmdlhhphcoaa
namespace Go.Proofs.Ytnmlmdlhhphcoaa
open Go.Abs
set_option maxRecDepth 100000
namespace M36
structure gX where
 i : List (Int)
 s : List (Int)
def g : Sg gX where
 vs := [.agg [.arr (.int .u8),.arr (.int .u8)]]
 h := []
 to := fun a b => ⟨a.1.1,a.1.2.1⟩
 fa := fun x => ((x.i,(x.s,())),())
 fh := fun x => ()
abbrev fY := List (Int) × List (Int)
def f : Ft fY where
 ord := none
 sh := .c (.clo 50 [⟨0,0,0⟩])
 h := [.st [.arr (.int .u8),.arr (.int .u8)] 1 0]
 to := fun a b => (b.1.1,b.1.2.1)
 fv := fun y => ()
 fh := fun y => ((y.1,(y.2,())),())
def cl : List (FuncId × Con) := []
theorem cl_ok : allCon Try.prog cl := trivial
def E0 : Env := ⟨ty,cfOf cl,fun _ => none,none⟩
def m (x : gX) : Option fY := some (x.i,x.s)
theorem m_eq (x : gX) : exec E0 4 C36 0 (initS 0 (g.A x)) (g.H x) (finish 0 ty [.tmp 2] f) = m x := by kernel_rfl
theorem tl : topL C36 0 = [] := by kernel_rfl
theorem known : Known Try.prog 36 g f m :=
 mk_known mixed (env_ok ty_ok cl_ok _) s36 rfl rfl tl AllL.nil (fun _ _ => ⟨rfl,rfl⟩) (fun _ _ => ⟨rfl,rfl⟩) m_eq
def con : Con := conG g [] f m default
theorem con_ok : ConOk Try.prog 36 con := conG_ok known
end M36
namespace M29
structure gX where
 i : List (Int)
 s : List (Int)
def g : Sg gX where
 vs := [.agg [.arr (.int .u8),.arr (.int .u8)]]
 h := []
 to := fun a b => ⟨a.1.1,a.1.2.1⟩
 fa := fun x => ((x.i,(x.s,())),())
 fh := fun x => ()
abbrev fY := Int
def f : Ft fY where
 ord := none
 sh := .c (.it .i64)
 h := []
 to := fun a b => (a)
 fv := fun y => y
 fh := fun y => ()
def cl : List (FuncId × Con) := [(36,M36.con)]
theorem cl_ok : allCon Try.prog cl := ⟨M36.con_ok,trivial⟩
def R0 : CC := C29.rngAt 0
noncomputable def EB0_0 : Env := ⟨ty,cfOf cl,fun _ => none,none⟩
structure bp0X where
 v : Int
 e : Int
 bi : List (Int)
 bs : List (Int)
def bp0 : Pt bp0X where
 own := []
 t := ⟨[(2,.c (.ptr 1 0)),(16,.c (.ip (.int .u8) 0)),(1000000,.c (.clo 1000000 [])),(1000001,.c (.ptr 2 0)),(2000002,.c (.ptr 1 0))],[.st [.junk,.junk] 1 0,.st [.it .i64] 1 0,.st [.arr (.int .u8),.arr (.int .u8)] 1 0]⟩
 to := fun v => ⟨v.1.2.1,v.2.2.1.1,v.2.2.2.1.1,v.2.2.2.1.2.1⟩
 fr := fun x => (((),(x.v,((),((),((),()))))),(((),((),())),((x.e,()),((x.bi,(x.bs,())),()))))
structure bq0X where
 e : Int
 bi : List (Int)
 bs : List (Int)
def bq0 : Pt bq0X where
 own := []
 t := ⟨[(1000000,.c (.clo 1000000 [])),(1000001,.c (.ptr 2 0)),(2000002,.c (.ptr 1 0))],[.st [.junk,.junk] 1 0,.st [.it .i64] 1 0,.st [.arr (.int .u8),.arr (.int .u8)] 1 0]⟩
 to := fun v => ⟨v.2.2.1.1,v.2.2.2.1.1,v.2.2.2.1.2.1⟩
 fr := fun x => (((),((),((),()))),(((),((),())),((x.e,()),((x.bi,(x.bs,())),()))))
structure bz0X where
 e : Int
 bi : List (Int)
 bs : List (Int)
def bz0 : Pt bz0X where
 own := []
 t := ⟨[(1000000,.c (.clo 1000000 [])),(1000001,.c (.ptr 2 0)),(2000002,.c (.ptr 1 0))],[.st [.junk,.junk] 1 0,.st [.it .i64] 1 0,.st [.arr (.int .u8),.arr (.int .u8)] 1 0]⟩
 to := fun v => ⟨v.2.2.1.1,v.2.2.2.1.1,v.2.2.2.1.2.1⟩
 fr := fun x => (((),((),((),()))),(((),((),())),((x.e,()),((x.bi,(x.bs,())),()))))
noncomputable def sb0 (x : bp0X) : Option (bq0X ⊕ bz0X) := bif decide (x.v > 2) then some (Sum.inr { e := 1,bi := x.bi,bs := x.bs }) else some (Sum.inl { e := x.e,bi := x.bi,bs := x.bs })
theorem sb0_eq (x : bp0X) : roundRun EB0_0 21 R0.rA R0.rB (bp0.R x) (bp0.H x) (endK2 0 bq0 .ret bz0) = sb0 x := by kernel_rfl
noncomputable def ub0 : LoopS := mkUnit2 0 bp0 bq0 .ret bz0 sb0
theorem ta0 : topL R0.rA 0 = [] := by kernel_rfl
theorem tb0 : topL R0.rB R0.rA.nl = [] := by kernel_rfl
theorem ub0_ok {y : YI} (hy : Rnd R0.rA R0.rB R0.rP 21 y) : BodyOkS Try.prog 21 0 y.assign y.body ub0 := mkBody2_ok mixed (env_ok ty_ok cl_ok _) rfl ⟨by kernel_rfl,by kernel_rfl⟩ (fun _ => rfl) (fun _ => rfl) (fun _ => rfl) (fun _ => ta0 ▸ AllL.nil) (fun l => tb0 ▸ AllL.nil) sb0_eq hy
noncomputable def EI0_2 : Env := ⟨ty,cfOf cl,fun _ => none,some (R0.rP,ub0)⟩
theorem yi0_2 {y : YI} (hy : Rnd R0.rA R0.rB R0.rP 21 y) : YldOk Try.prog 0 EI0_2 (some y) := yld_ok rfl (by kernel_rfl) (by kernel_rfl) ub0_ok hy
structure i0_p1X where
 n2 : Int
 i2 : Int
 e : Int
 bi : List (Int)
 bs : List (Int)
def i0_p1 : Pt i0_p1X where
 own := []
 t := ⟨[(0,.c (.clo 1000000 [])),(1,.c (.ptr 2 0)),(22,.c (.it .i64)),(23,.c (.it .i64)),(2000002,.c (.ptr 1 0)),(3000000,.c (.fn 0))],[.st [.junk,.junk] 1 0,.st [.it .i64] 1 0,.st [.arr (.int .u8),.arr (.int .u8)] 1 0]⟩
 to := fun v => ⟨v.1.2.2.1,v.1.2.2.2.1,v.2.2.1.1,v.2.2.2.1.1,v.2.2.2.1.2.1⟩
 fr := fun x => (((),((),(x.n2,(x.i2,((),((),())))))),(((),((),())),((x.e,()),((x.bi,(x.bs,())),()))))
structure i0_q1X where
 e : Int
 bi : List (Int)
 bs : List (Int)
def i0_q1 : Pt i0_q1X where
 own := []
 t := ⟨[(2000002,.c (.ptr 1 0)),(3000000,.c (.fn 0))],[.st [.junk,.junk] 1 0,.st [.it .i64] 1 0,.st [.arr (.int .u8),.arr (.int .u8)] 1 0]⟩
 to := fun v => ⟨v.2.2.1.1,v.2.2.2.1.1,v.2.2.2.1.2.1⟩
 fr := fun x => (((),((),())),(((),((),())),((x.e,()),((x.bi,(x.bs,())),()))))
structure i0_z1X where
 e : Int
 bi : List (Int)
 bs : List (Int)
def i0_z1 : Pt i0_z1X where
 own := []
 t := ⟨[(2000002,.c (.ptr 1 0)),(3000000,.c (.fn 2))],[.st [.junk,.junk] 1 0,.st [.it .i64] 1 0,.st [.arr (.int .u8),.arr (.int .u8)] 1 0]⟩
 to := fun v => ⟨v.2.2.1.1,v.2.2.2.1.1,v.2.2.2.1.2.1⟩
 fr := fun x => (((),((),())),(((),((),())),((x.e,()),((x.bi,(x.bs,())),()))))
noncomputable def i0_s1 (x : i0_p1X) : Option (i0_p1X ⊕ (i0_q1X ⊕ i0_z1X)) := bif decide (x.i2 < x.n2) then bif inR x.i2 x.bs.length then bindO (sb0 { v := x.bs[x.i2.toNat]?.getD 0,e := x.e,bi := x.bi,bs := x.bs }) fun s => sumC s (fun y => some (Sum.inl { n2 := x.n2,i2 := IntKind.i64.wrap (x.i2 + 1),e := y.e,bi := y.bi,bs := y.bs })) fun z => some (Sum.inr (Sum.inr { e := z.e,bi := z.bi,bs := z.bs })) else none
else some (Sum.inr (Sum.inl { e := x.e,bi := x.bi,bs := x.bs }))
theorem i0_s1_eq (x : i0_p1X) : exec EI0_2 39 (C50.bodyAt 1) 2 (i0_p1.R x) (i0_p1.H x) (roundK2 0 i0_p1 (.exit 2) i0_q1 .ret i0_z1) = i0_s1 x := by kernel_rfl
noncomputable def i0_l1 : LoopS := mkLoop2 0 i0_p1 (.exit 2) i0_q1 .ret i0_z1 i0_s1
theorem ti0_l1 : topL (C50.bodyAt 1) 2 = [] := by kernel_rfl
theorem i0_l1_ok {y : YI} (hy : Rnd R0.rA R0.rB R0.rP 21 y) : LoopOkS Try.prog 39 none 0 (C50.bodyAt 1) i0_l1 (some y) := mkLoop2_ok mixed (env_ok ty_ok cl_ok _) (by trivial) (by trivial) (fun _ => rfl) (fun _ => rfl) (fun _ => rfl) (ti0_l1 ▸ AllL.nil) i0_s1_eq (hyk := yi0_2 hy)
noncomputable def EI0_1 : Env := ⟨ty,cfOf cl,lpOf [(1,i0_l1)],some (R0.rP,ub0)⟩
theorem yi0_1 {y : YI} (hy : Rnd R0.rA R0.rB R0.rP 21 y) : YldOk Try.prog 0 EI0_1 (some y) := yld_ok rfl (by kernel_rfl) (by kernel_rfl) ub0_ok hy
structure i0_p0X where
 n : Int
 i : Int
 e : Int
 bi : List (Int)
 bs : List (Int)
def i0_p0 : Pt i0_p0X where
 own := []
 t := ⟨[(0,.c (.clo 1000000 [])),(1,.c (.ptr 2 0)),(7,.c (.it .i64)),(8,.c (.it .i64)),(2000002,.c (.ptr 1 0)),(3000000,.c (.fn 0))],[.st [.junk,.junk] 1 0,.st [.it .i64] 1 0,.st [.arr (.int .u8),.arr (.int .u8)] 1 0]⟩
 to := fun v => ⟨v.1.2.2.1,v.1.2.2.2.1,v.2.2.1.1,v.2.2.2.1.1,v.2.2.2.1.2.1⟩
 fr := fun x => (((),((),(x.n,(x.i,((),((),())))))),(((),((),())),((x.e,()),((x.bi,(x.bs,())),()))))
structure i0_q0X where
 e : Int
 bi : List (Int)
 bs : List (Int)
def i0_q0 : Pt i0_q0X where
 own := []
 t := ⟨[(0,.c (.clo 1000000 [])),(1,.c (.ptr 2 0)),(2000002,.c (.ptr 1 0)),(3000000,.c (.fn 0))],[.st [.junk,.junk] 1 0,.st [.it .i64] 1 0,.st [.arr (.int .u8),.arr (.int .u8)] 1 0]⟩
 to := fun v => ⟨v.2.2.1.1,v.2.2.2.1.1,v.2.2.2.1.2.1⟩
 fr := fun x => (((),((),((),((),())))),(((),((),())),((x.e,()),((x.bi,(x.bs,())),()))))
structure i0_z0X where
 e : Int
 bi : List (Int)
 bs : List (Int)
def i0_z0 : Pt i0_z0X where
 own := []
 t := ⟨[(2000002,.c (.ptr 1 0)),(3000000,.c (.fn 2))],[.st [.junk,.junk] 1 0,.st [.it .i64] 1 0,.st [.arr (.int .u8),.arr (.int .u8)] 1 0]⟩
 to := fun v => ⟨v.2.2.1.1,v.2.2.2.1.1,v.2.2.2.1.2.1⟩
 fr := fun x => (((),((),())),(((),((),())),((x.e,()),((x.bi,(x.bs,())),()))))
noncomputable def i0_s0 (x : i0_p0X) : Option (i0_p0X ⊕ (i0_q0X ⊕ i0_z0X)) := bif decide (x.i < x.n) then bif inR x.i x.bi.length then bindO (sb0 { v := x.bi[x.i.toNat]?.getD 0,e := x.e,bi := x.bi,bs := x.bs }) fun s => sumC s (fun y => some (Sum.inl { n := x.n,i := IntKind.i64.wrap (x.i + 1),e := y.e,bi := y.bi,bs := y.bs })) fun z => some (Sum.inr (Sum.inr { e := z.e,bi := z.bi,bs := z.bs })) else none
else some (Sum.inr (Sum.inl { e := x.e,bi := x.bi,bs := x.bs }))
theorem i0_s0_eq (x : i0_p0X) : exec EI0_1 39 (C50.bodyAt 0) 1 (i0_p0.R x) (i0_p0.H x) (roundK2 0 i0_p0 (.exit 0) i0_q0 .ret i0_z0) = i0_s0 x := by kernel_rfl
noncomputable def i0_l0 : LoopS := mkLoop2 0 i0_p0 (.exit 0) i0_q0 .ret i0_z0 i0_s0
theorem ti0_l0 : topL (C50.bodyAt 0) 1 = [] := by kernel_rfl
theorem i0_l0_ok {y : YI} (hy : Rnd R0.rA R0.rB R0.rP 21 y) : LoopOkS Try.prog 39 none 0 (C50.bodyAt 0) i0_l0 (some y) := mkLoop2_ok mixed (env_ok ty_ok cl_ok _) (by trivial) (by trivial) (fun _ => rfl) (fun _ => rfl) (fun _ => rfl) (ti0_l0 ▸ AllL.nil) i0_s0_eq (hyk := yi0_1 hy)
noncomputable def EI0_0 : Env := ⟨ty,cfOf cl,lpOf [(0,i0_l0),(1,i0_l1)],some (R0.rP,ub0)⟩
theorem yi0_0 {y : YI} (hy : Rnd R0.rA R0.rB R0.rP 21 y) : YldOk Try.prog 0 EI0_0 (some y) := yld_ok rfl (by kernel_rfl) (by kernel_rfl) ub0_ok hy
structure p0X where
 e : Int
 bi : List (Int)
 bs : List (Int)
def p0 : Pt p0X where
 own := []
 t := ⟨[(2,.c (.ptr 1 0)),(14,.c (.clo 50 [⟨2,0,0⟩]))],[.st [.junk,.junk] 1 0,.st [.it .i64] 1 0,.st [.arr (.int .u8),.arr (.int .u8)] 1 0]⟩
 to := fun v => ⟨v.2.2.1.1,v.2.2.2.1.1,v.2.2.2.1.2.1⟩
 fr := fun x => (((),((),())),(((),((),())),((x.e,()),((x.bi,(x.bs,())),()))))
structure q0X where
 e : Int
 bi : List (Int)
 bs : List (Int)
def q0 : Pt q0X where
 own := []
 t := ⟨[(2,.c (.ptr 1 0))],[.st [.junk,.junk] 1 0,.st [.it .i64] 1 0,.st [.arr (.int .u8),.arr (.int .u8)] 1 0]⟩
 to := fun v => ⟨v.2.2.1.1,v.2.2.2.1.1,v.2.2.2.1.2.1⟩
 fr := fun x => (((),()),(((),((),())),((x.e,()),((x.bi,(x.bs,())),()))))
structure z0X where
 e : Int
 bi : List (Int)
 bs : List (Int)
def z0 : Pt z0X where
 own := []
 t := ⟨[(2,.c (.ptr 1 0))],[.st [.junk,.junk] 1 0,.st [.it .i64] 1 0,.st [.arr (.int .u8),.arr (.int .u8)] 1 0]⟩
 to := fun v => ⟨v.2.2.1.1,v.2.2.2.1.1,v.2.2.2.1.2.1⟩
 fr := fun x => (((),()),(((),((),())),((x.e,()),((x.bi,(x.bs,())),()))))
noncomputable def s0 (x : p0X) : Option (q0X ⊕ z0X) := bindO (iter i0_s0 { n := (↑x.bi.length : Int),i := 0,e := x.e,bi := x.bi,bs := x.bs }) fun s => sumC s (fun y => bindO (iter i0_s1 { n2 := (↑y.bs.length : Int),i2 := 0,e := y.e,bi := y.bi,bs := y.bs }) fun s => sumC s (fun y => some (Sum.inl { e := y.e,bi := y.bi,bs := y.bs })) fun z => some (Sum.inr { e := z.e,bi := z.bi,bs := z.bs })) fun z => some (Sum.inr { e := z.e,bi := z.bi,bs := z.bs })
theorem s0_eq (x : p0X) : rngRun EI0_0 39 C50 50 R0.rF (p0.R x) (p0.H x) (leaveK (endK2 0 q0 .ret z0)) = s0 x := by kernel_rfl
noncomputable def l0 : LoopS := mkUnit2 0 p0 q0 .ret z0 s0
theorem ti0 : topL C50 0 = [(0,C50.bodyAt 0),(1,C50.bodyAt 1)] := by kernel_rfl
theorem l0_ok : RngOkS Try.prog 21 0 R0.rF R0.rP R0.rA R0.rB l0 := mkRng2_ok mixed (env_ok ty_ok cl_ok _) (fun hy => yi0_0 hy) s50 (by kernel_rfl) (fun hy => ti0 ▸ (AllL.cons rfl (i0_l0_ok hy) (AllL.cons rfl (i0_l1_ok hy) AllL.nil))) (fun _ => rfl) (fun _ => rfl) (fun _ => rfl) s0_eq
noncomputable def E0 : Env := ⟨ty,cfOf cl,lpOf [(0,l0)],none⟩
theorem ur : rngs C29 0 = [(0,R0)] := by kernel_rfl
noncomputable def m (x : gX) : Option fY := bif decide (IntKind.i64.wrap ((↑x.i.length : Int) + (↑x.s.length : Int)) > 16384) then some 3
else bindO (M36.m { i := x.i,s := x.s }) fun y => bindO (s0 { e := 0,bi := y.fst,bs := y.snd }) fun s => sumC s (fun y => some 0) fun z => some z.e
theorem m_eq (x : gX) : exec E0 21 C29 0 (initS 0 (g.A x)) (g.H x) (finish 0 ty [.cell 2 32] f) = m x := by kernel_rfl
theorem tl : topL C29 0 = [] := by kernel_rfl
theorem known : Known Try.prog 29 g f m :=
 mk_known mixed (env_ok ty_ok cl_ok _) s29 rfl rfl tl AllL.nil (fun _ _ => ⟨rfl,rfl⟩) (fun _ _ => ⟨rfl,rfl⟩) m_eq (hg := RgOk.of rfl (ur ▸ (AllR.cons rfl rfl l0_ok AllR.nil)))
noncomputable def con : Con := conT g f m default
theorem con_ok : ConOk Try.prog 29 con := conT_ok known (fun _ => rfl) rfl
end M29
end Go.Proofs.Ytnmlmdlhhphcoaa
namespace Go.Proofs.Ytnmlmdlhhphcoaa
open Go.Abs
set_option maxRecDepth 100000
namespace M33
structure gX where
 ai : List (Int)
 as_ : List (Int)
 bi : List (Int)
 bs : List (Int)
def g : Sg gX where
 vs := [.agg [.arr (.int .u8),.arr (.int .u8)],.agg [.arr (.int .u8),.arr (.int .u8)]]
 h := []
 to := fun a b => ⟨a.1.1,a.1.2.1,a.2.1.1,a.2.1.2.1⟩
 fa := fun x => ((x.ai,(x.as_,())),((x.bi,(x.bs,())),()))
 fh := fun x => ()
abbrev fY := Int
def f : Ft fY where
 ord := none
 sh := .c (.it .i64)
 h := []
 to := fun a b => (a)
 fv := fun y => y
 fh := fun y => ()
noncomputable def cl : List (FuncId × Con) := [(29,M29.con)]
theorem cl_ok : allCon Try.prog cl := ⟨M29.con_ok,trivial⟩
noncomputable def E1 : Env := ⟨ty,cfOf cl,fun _ => none,none⟩
structure p0X where
 l : List ((List (Int)) × List (Int))
 n : Int
 i : Int
 ai : List (Int)
 as_ : List (Int)
 bi : List (Int)
 bs : List (Int)
def p0 : Pt p0X where
 own := []
 t := ⟨[(2,.c (.ptr 0 0)),(3,.c (.ptr 1 0)),(10,.c (.arr (.pair (.sl (.int .u8)) (.sl (.int .u8))))),(11,.c (.it .i64)),(12,.c (.it .i64))],[.st [.arr (.int .u8),.arr (.int .u8)] 1 0,.st [.arr (.int .u8),.arr (.int .u8)] 1 0]⟩
 to := fun v => ⟨v.1.2.2.1,v.1.2.2.2.1,v.1.2.2.2.2.1,v.2.1.1,v.2.1.2.1,v.2.2.1.1,v.2.2.1.2.1⟩
 fr := fun x => (((),((),(x.l,(x.n,(x.i,()))))),((x.ai,(x.as_,())),((x.bi,(x.bs,())),())))
structure q0X where
 ai : List (Int)
 as_ : List (Int)
 bi : List (Int)
 bs : List (Int)
def q0 : Pt q0X where
 own := []
 t := ⟨[(2,.c (.ptr 0 0)),(3,.c (.ptr 1 0))],[.st [.arr (.int .u8),.arr (.int .u8)] 1 0,.st [.arr (.int .u8),.arr (.int .u8)] 1 0]⟩
 to := fun v => ⟨v.2.1.1,v.2.1.2.1,v.2.2.1.1,v.2.2.1.2.1⟩
 fr := fun x => (((),((),())),((x.ai,(x.as_,())),((x.bi,(x.bs,())),())))
structure z0X where
 r : Int
def z0 : Pt z0X where
 own := []
 t := ⟨[(4,.c (.it .i64))],[]⟩
 to := fun v => ⟨v.1.1⟩
 fr := fun x => ((x.r,()),())
noncomputable def s0 (x : p0X) : Option (p0X ⊕ (q0X ⊕ z0X)) := bif decide (x.i < x.n) then bif inR x.i x.l.length then bindO (M29.m { i := (x.l[x.i.toNat]?.getD ([],[])).fst,s := (x.l[x.i.toNat]?.getD ([],[])).snd }) fun y => bif y != 0 then some (Sum.inr (Sum.inr { r := y })) else some (Sum.inl { l := x.l,n := x.n,i := IntKind.i64.wrap (x.i + 1),ai := x.ai,as_ := x.as_,bi := x.bi,bs := x.bs }) else none
else some (Sum.inr (Sum.inl { ai := x.ai,as_ := x.as_,bi := x.bi,bs := x.bs }))
theorem s0_eq (x : p0X) : exec E1 38 (C33.bodyAt 0) 1 (p0.R x) (p0.H x) (roundK2 0 p0 (.exit 0) q0 .ret z0) = s0 x := by kernel_rfl
noncomputable def l0 : LoopS := mkLoop2 0 p0 (.exit 0) q0 .ret z0 s0
theorem tl0 : topL (C33.bodyAt 0) 1 = [] := by kernel_rfl
theorem l0_ok  : LoopOkS Try.prog 38 none 0 (C33.bodyAt 0) l0 := mkLoop2_ok mixed (env_ok ty_ok cl_ok _) (by trivial) (by trivial) (fun _ => rfl) (fun _ => rfl) (fun _ => rfl) (tl0 ▸ AllL.nil) s0_eq
noncomputable def E0 : Env := ⟨ty,cfOf cl,lpOf [(0,l0)],none⟩
noncomputable def m (x : gX) : Option fY := bindO (iter s0 { l := [(x.ai,x.as_),(x.bi,x.bs)],n := (↑2 : Int),i := 0,ai := x.ai,as_ := x.as_,bi := x.bi,bs := x.bs }) fun s => sumC s (fun y => bif bif (↑y.ai.length : Int) != (↑y.bi.length : Int) then true else (↑y.as_.length : Int) != (↑y.bs.length : Int) then some 8 else some 0) fun z => some z.r
theorem m_eq (x : gX) : exec E0 38 C33 0 (initS 0 (g.A x)) (g.H x) (finish 0 ty [.tmp 4] f) = m x := by kernel_rfl
theorem tl : topL C33 0 = [(0,C33.bodyAt 0)] := by kernel_rfl
theorem known : Known Try.prog 33 g f m :=
 mk_known mixed (env_ok ty_ok cl_ok _) s33 rfl rfl tl (AllL.cons rfl l0_ok AllL.nil) (fun _ _ => ⟨rfl,rfl⟩) (fun _ _ => ⟨rfl,rfl⟩) m_eq
noncomputable def con : Con := conT g f m default
theorem con_ok : ConOk Try.prog 33 con := conT_ok known (fun _ => rfl) rfl
end M33
namespace M34
structure gX where
 i : List (Int)
 s : List (Int)
def g : Sg gX where
 vs := [.agg [.arr (.int .u8),.arr (.int .u8)]]
 h := []
 to := fun a b => ⟨a.1.1,a.1.2.1⟩
 fa := fun x => ((x.i,(x.s,())),())
 fh := fun x => ()
abbrev fY := Nat × Nat × Nat × Nat × Nat × Nat × List (Int) × List (Int)
def f : Ft fY where
 ord := some [2,3,0,1]
 sh := .agg [.slc 0 0 1,.slc 1 0 1]
 h := [.arr (.int .u8) 0,.arr (.int .u8) 0]
 to := fun a b => (a.1.1,a.1.2.1,a.1.2.2,a.2.1.1,a.2.1.2.1,a.2.1.2.2,b.1,b.2.1)
 fv := fun y => ((y.1,y.2.1,y.2.2.1),((y.2.2.2.1,y.2.2.2.2.1,y.2.2.2.2.2.1),()))
 fh := fun y => (y.2.2.2.2.2.2.1,(y.2.2.2.2.2.2.2,()))
def cl : List (FuncId × Con) := []
theorem cl_ok : allCon Try.prog cl := trivial
def E0 : Env := ⟨ty,cfOf cl,fun _ => none,none⟩
def m (x : gX) : Option fY := bif decide (0 ≤ (↑x.i.length : Int)) && decide ((↑x.i.length : Int) * (↑1 : Int) ≤ 281474976710656) && decide ((↑x.i.length : Int) ≤ 9223372036854775807) then bif leB (0 + x.i.length) (↑x.i.length : Int).toNat && leB (0 + (↑x.i.length : Int).toNat) (List.replicate (↑x.i.length : Int).toNat (0 : Int)).length then bif decide (0 ≤ (↑x.s.length : Int)) && decide ((↑x.s.length : Int) * (↑1 : Int) ≤ 281474976710656) && decide ((↑x.s.length : Int) ≤ 9223372036854775807) then bif leB (0 + x.s.length) (↑x.s.length : Int).toNat && leB (0 + (↑x.s.length : Int).toNat) (List.replicate (↑x.s.length : Int).toNat (0 : Int)).length then some (0,0 + x.i.length,(↑x.i.length : Int).toNat,0,0 + x.s.length,(↑x.s.length : Int).toNat,List.take 0 (List.replicate (↑x.i.length : Int).toNat (0 : Int)) ++ x.i ++ List.drop (0 + x.i.length) (List.replicate (↑x.i.length : Int).toNat (0 : Int)),List.take 0 (List.replicate (↑x.s.length : Int).toNat (0 : Int)) ++ x.s ++ List.drop (0 + x.s.length) (List.replicate (↑x.s.length : Int).toNat (0 : Int))) else none else none else none
else none
theorem m_eq (x : gX) : exec E0 18 C34 0 (initS 0 (g.A x)) (g.H x) (finish 0 ty [.cell 2 29] f) = m x := by kernel_rfl
theorem tl : topL C34 0 = [] := by kernel_rfl
theorem known : Known Try.prog 34 g f m :=
 mk_known mixed (env_ok ty_ok cl_ok _) s34 rfl rfl tl AllL.nil (fun _ _ => ⟨rfl,rfl⟩) (fun _ _ => ⟨rfl,rfl⟩) m_eq
def con : Con := conG g [] f m default
theorem con_ok : ConOk Try.prog 34 con := conG_ok known
end M34
namespace M36o
structure gX where
 i_lo : Nat
 i_len : Nat
 i_cap : Nat
 s_lo : Nat
 s_len : Nat
 s_cap : Nat
 xs : List (Int)
 ys : List (Int)
def g : Sg gX where
 vs := [.agg [.slc 0 0 1,.slc 1 0 1]]
 h := [.arr (.int .u8) 0,.arr (.int .u8) 0]
 to := fun a b => ⟨a.1.1.1,a.1.1.2.1,a.1.1.2.2,a.1.2.1.1,a.1.2.1.2.1,a.1.2.1.2.2,b.1,b.2.1⟩
 fa := fun x => (((x.i_lo,x.i_len,x.i_cap),((x.s_lo,x.s_len,x.s_cap),())),())
 fh := fun x => (x.xs,(x.ys,()))
abbrev fY := List (Int) × List (Int) × Nat × Nat × Nat × Nat × Nat × Nat
def f : Ft fY where
 ord := none
 sh := .c (.clo 50 [⟨2,0,0⟩])
 h := [.arr (.int .u8) 0,.arr (.int .u8) 0,.st [.slc 0 0 1,.slc 1 0 1] 1 0]
 to := fun a b => (b.1,b.2.1,b.2.2.1.1.1,b.2.2.1.1.2.1,b.2.2.1.1.2.2,b.2.2.1.2.1.1,b.2.2.1.2.1.2.1,b.2.2.1.2.1.2.2)
 fv := fun y => ()
 fh := fun y => (y.1,(y.2.1,(((y.2.2.1,y.2.2.2.1,y.2.2.2.2.1),((y.2.2.2.2.2.1,y.2.2.2.2.2.2.1,y.2.2.2.2.2.2.2),())),())))
def cl : List (FuncId × Con) := []
theorem cl_ok : allCon Try.prog cl := trivial
def E0 : Env := ⟨ty,cfOf cl,fun _ => none,none⟩
def m (x : gX) : Option fY := some (x.xs,x.ys,x.i_lo,x.i_len,x.i_cap,x.s_lo,x.s_len,x.s_cap)
theorem m_eq (x : gX) : exec E0 4 C36 0 (initS 0 (g.A x)) (g.H x) (finish 2 ty [.tmp 2] f) = m x := by kernel_rfl
theorem tl : topL C36 0 = [] := by kernel_rfl
theorem known : Known Try.prog 36 g f m :=
 mk_known mixed (env_ok ty_ok cl_ok _) s36 rfl rfl tl AllL.nil (fun _ _ => ⟨rfl,rfl⟩) (fun _ _ => ⟨rfl,rfl⟩) m_eq
def con : Con := conG g [.arg 0 0,.arg 0 1] f m default
theorem con_ok : ConOk Try.prog 36 con := conG_ok known
end M36o
end Go.Proofs.Ytnmlmdlhhphcoaa
namespace Go.Proofs.Ytnmlmdlhhphcoaa
open Go.Abs
set_option maxRecDepth 100000
namespace M38
structure gX where
 x : Int
 y : Int
def g : Sg gX where
 vs := [.c (.it .u8),.c (.it .u8)]
 h := []
 to := fun a b => ⟨a.1,a.2.1⟩
 fa := fun x => (x.x,(x.y,()))
 fh := fun x => ()
abbrev fY := Bool
def f : Ft fY where
 ord := none
 sh := .c (.bo)
 h := []
 to := fun a b => (a)
 fv := fun y => y
 fh := fun y => ()
def cl : List (FuncId × Con) := []
theorem cl_ok : allCon Try.prog cl := trivial
def E0 : Env := ⟨ty,cfOf cl,fun _ => none,none⟩
def m (x : gX) : Option fY := some (bif x.x != 2 then x.x != x.y else false)
theorem m_eq (x : gX) : exec E0 12 C38 0 (initS 0 (g.A x)) (g.H x) (finish 0 ty [.tmp 4] f) = m x := by kernel_rfl
theorem tl : topL C38 0 = [] := by kernel_rfl
theorem known : Known Try.prog 38 g f m :=
 mk_known mixed (env_ok ty_ok cl_ok _) s38 rfl rfl tl AllL.nil (fun _ _ => ⟨rfl,rfl⟩) (fun _ _ => ⟨rfl,rfl⟩) m_eq
def con : Con := conT g f m default
theorem con_ok : ConOk Try.prog 38 con := conT_ok known (fun _ => rfl) rfl
end M38
namespace M39
structure gX where
 x : Int
 y : Int
def g : Sg gX where
 vs := [.c (.it .u8),.c (.it .u8)]
 h := []
 to := fun a b => ⟨a.1,a.2.1⟩
 fa := fun x => (x.x,(x.y,()))
 fh := fun x => ()
abbrev fY := Bool
def f : Ft fY where
 ord := none
 sh := .c (.bo)
 h := []
 to := fun a b => (a)
 fv := fun y => y
 fh := fun y => ()
def cl : List (FuncId × Con) := []
theorem cl_ok : allCon Try.prog cl := trivial
def E0 : Env := ⟨ty,cfOf cl,fun _ => none,none⟩
def m (x : gX) : Option fY := some (IntKind.u8.wrap (x.x + x.y) == 1)
theorem m_eq (x : gX) : exec E0 9 C39 0 (initS 0 (g.A x)) (g.H x) (finish 0 ty [.tmp 4] f) = m x := by kernel_rfl
theorem tl : topL C39 0 = [] := by kernel_rfl
theorem known : Known Try.prog 39 g f m :=
 mk_known mixed (env_ok ty_ok cl_ok _) s39 rfl rfl tl AllL.nil (fun _ _ => ⟨rfl,rfl⟩) (fun _ _ => ⟨rfl,rfl⟩) m_eq
def con : Con := conT g f m default
theorem con_ok : ConOk Try.prog 39 con := conT_ok known (fun _ => rfl) rfl
end M39
namespace M41
structure gX where
 v : Int
def g : Sg gX where
 vs := [.c (.it .u8)]
 h := []
 to := fun a b => ⟨a.1⟩
 fa := fun x => (x.v,())
 fh := fun x => ()
abbrev fY := Bool
def f : Ft fY where
 ord := none
 sh := .c (.bo)
 h := []
 to := fun a b => (a)
 fv := fun y => y
 fh := fun y => ()
def cl : List (FuncId × Con) := []
theorem cl_ok : allCon Try.prog cl := trivial
def E0 : Env := ⟨ty,cfOf cl,fun _ => none,none⟩
def m (x : gX) : Option fY := some (x.v != 2)
theorem m_eq (x : gX) : exec E0 5 C41 0 (initS 0 (g.A x)) (g.H x) (finish 0 ty [.tmp 2] f) = m x := by kernel_rfl
theorem tl : topL C41 0 = [] := by kernel_rfl
theorem known : Known Try.prog 41 g f m :=
 mk_known mixed (env_ok ty_ok cl_ok _) s41 rfl rfl tl AllL.nil (fun _ _ => ⟨rfl,rfl⟩) (fun _ _ => ⟨rfl,rfl⟩) m_eq
def con : Con := conT g f m default
theorem con_ok : ConOk Try.prog 41 con := conT_ok known (fun _ => rfl) rfl
end M41
namespace M40
structure gX where
 s : List (Int)
def g : Sg gX where
 vs := [.c (.arr (.int .u8)),.c (.fn 41)]
 h := []
 to := fun a b => ⟨a.1⟩
 fa := fun x => (x.s,((),()))
 fh := fun x => ()
abbrev fY := Int
def f : Ft fY where
 ord := none
 sh := .c (.it .i64)
 h := []
 to := fun a b => (a)
 fv := fun y => y
 fh := fun y => ()
def cl : List (FuncId × Con) := [(41,M41.con)]
theorem cl_ok : allCon Try.prog cl := ⟨M41.con_ok,trivial⟩
def E1 : Env := ⟨ty,cfOf cl,fun _ => none,none⟩
structure p0X where
 s : List (Int)
 n : Int
 i : Int
def p0 : Pt p0X where
 own := []
 t := ⟨[(0,.c (.arr (.int .u8))),(1,.c (.fn 41)),(7,.c (.it .i64)),(8,.c (.it .i64))],[]⟩
 to := fun v => ⟨v.1.1,v.1.2.2.1,v.1.2.2.2.1⟩
 fr := fun x => ((x.s,((),(x.n,(x.i,())))),())
abbrev q0X := Unit
def q0 : Pt q0X where
 own := []
 t := ⟨[],[]⟩
 to := fun v => ()
 fr := fun x => ((),())
structure z0X where
 r : Int
def z0 : Pt z0X where
 own := []
 t := ⟨[(4,.c (.it .i64))],[]⟩
 to := fun v => ⟨v.1.1⟩
 fr := fun x => ((x.r,()),())
def s0 (x : p0X) : Option (p0X ⊕ (q0X ⊕ z0X)) := bif decide (x.i < x.n) then bif inR x.i x.s.length then bindO (M41.m { v := x.s[x.i.toNat]?.getD 0 }) fun y => bif y then some (Sum.inr (Sum.inr { r := x.i })) else some (Sum.inl { s := x.s,n := x.n,i := IntKind.i64.wrap (x.i + 1) }) else none
else some (Sum.inr (Sum.inl PUnit.unit))
theorem s0_eq (x : p0X) : exec E1 19 (C40.bodyAt 0) 1 (p0.R x) (p0.H x) (roundK2 0 p0 (.exit 0) q0 .ret z0) = s0 x := by kernel_rfl
noncomputable def l0 : LoopS := mkLoop2 0 p0 (.exit 0) q0 .ret z0 s0
theorem tl0 : topL (C40.bodyAt 0) 1 = [] := by kernel_rfl
theorem l0_ok  : LoopOkS Try.prog 19 none 0 (C40.bodyAt 0) l0 := mkLoop2_ok mixed (env_ok ty_ok cl_ok _) (by trivial) (by trivial) (fun _ => rfl) (fun _ => rfl) (fun _ => rfl) (tl0 ▸ AllL.nil) s0_eq
noncomputable def E0 : Env := ⟨ty,cfOf cl,lpOf [(0,l0)],none⟩
noncomputable def m (x : gX) : Option fY := bindO (iter s0 { s := x.s,n := (↑x.s.length : Int),i := 0 }) fun s => sumC s (fun y => some (-1)) fun z => some z.r
theorem m_eq (x : gX) : exec E0 19 C40 0 (initS 0 (g.A x)) (g.H x) (finish 0 ty [.tmp 4] f) = m x := by kernel_rfl
theorem tl : topL C40 0 = [(0,C40.bodyAt 0)] := by kernel_rfl
theorem known : Known Try.prog 40 g f m :=
 mk_known mixed (env_ok ty_ok cl_ok _) s40 rfl rfl tl (AllL.cons rfl l0_ok AllL.nil) (fun _ _ => ⟨rfl,rfl⟩) (fun _ _ => ⟨rfl,rfl⟩) m_eq
noncomputable def con : Con := conT g f m default
theorem con_ok : ConOk Try.prog 40 con := conT_ok known (fun _ => rfl) rfl
end M40
end Go.Proofs.Ytnmlmdlhhphcoaa
namespace Go.Proofs.Ytnmlmdlhhphcoaa
open Go.Abs
set_option maxRecDepth 100000
namespace M49
structure gX where
 l : List (List (Int))
def g : Sg gX where
 vs := [.c (.arr (.sl (.int .u8)))]
 h := []
 to := fun a b => ⟨a.1⟩
 fa := fun x => (x.l,())
 fh := fun x => ()
abbrev fY := List (Int)
def f : Ft fY where
 ord := none
 sh := .c (.arr (.int .u8))
 h := []
 to := fun a b => (a)
 fv := fun y => y
 fh := fun y => ()
noncomputable def cl : List (FuncId × Con) := [(55,M55.con)]
theorem cl_ok : allCon Try.prog cl := ⟨M55.con_ok,trivial⟩
noncomputable def E2 : Env := ⟨ty,cfOf cl,fun _ => none,none⟩
structure p1X where
 s_lo : Nat
 s_len : Nat
 l : List (List (Int))
 n : Int
 i : Int
 xs : List (Int)
def p1 : Pt p1X where
 own := []
 t := ⟨[(6,.c (.sl 0 0 1)),(25,.c (.arr (.sl (.int .u8)))),(26,.c (.it .i64)),(27,.c (.it .i64))],[.arr (.int .u8) 0]⟩
 to := fun v => ⟨v.1.1.1,v.1.1.2,v.1.2.1,v.1.2.2.1,v.1.2.2.2.1,v.2.1⟩
 fr := fun x => (((x.s_lo,x.s_len),(x.l,(x.n,(x.i,())))),(x.xs,()))
structure q1X where
 s_lo : Nat
 s_len : Nat
 xs : List (Int)
def q1 : Pt q1X where
 own := []
 t := ⟨[(6,.c (.sl 0 0 1))],[.arr (.int .u8) 0]⟩
 to := fun v => ⟨v.1.1.1,v.1.1.2,v.2.1⟩
 fr := fun x => (((x.s_lo,x.s_len),()),(x.xs,()))
noncomputable def s1 (x : p1X) : Option (p1X ⊕ q1X) := bif decide (x.i < x.n) then bif inR x.i x.l.length then bif eqN x.s_lo 0 && eqN x.xs.length x.s_len && roomB (x.s_len + List.length (x.l[x.i.toNat]?.getD [])) 1 then some (Sum.inl { s_lo := 0,s_len := x.s_len + List.length (x.l[x.i.toNat]?.getD []),l := x.l,n := x.n,i := IntKind.i64.wrap (x.i + 1),xs := x.xs ++ x.l[x.i.toNat]?.getD [] }) else none else none
else some (Sum.inr { s_lo := x.s_lo,s_len := x.s_len,xs := x.xs })
theorem s1_eq (x : p1X) : exec E2 36 (C49.bodyAt 1) 2 (p1.R x) (p1.H x) (roundK 0 p1 (.exit 2) q1) = s1 x := by kernel_rfl
noncomputable def l1 : LoopS := mkLoop 0 p1 (.exit 2) q1 s1
theorem tl1 : topL (C49.bodyAt 1) 2 = [] := by kernel_rfl
theorem l1_ok  : LoopOkS Try.prog 36 none 0 (C49.bodyAt 1) l1 := mkLoop_ok mixed (env_ok ty_ok cl_ok _) (by trivial) (fun _ => rfl) (fun _ => rfl) (tl1 ▸ AllL.nil) s1_eq
noncomputable def E1 : Env := ⟨ty,cfOf cl,lpOf [(1,l1)],none⟩
structure p0X where
 l : List (List (Int))
 size : Int
 l9 : List (List (Int))
 n : Int
 i : Int
def p0 : Pt p0X where
 own := []
 t := ⟨[(0,.c (.arr (.sl (.int .u8)))),(3,.c (.it .i64)),(9,.c (.arr (.sl (.int .u8)))),(10,.c (.it .i64)),(11,.c (.it .i64))],[]⟩
 to := fun v => ⟨v.1.1,v.1.2.1,v.1.2.2.1,v.1.2.2.2.1,v.1.2.2.2.2.1⟩
 fr := fun x => ((x.l,(x.size,(x.l9,(x.n,(x.i,()))))),())
structure q0X where
 l : List (List (Int))
 size : Int
def q0 : Pt q0X where
 own := []
 t := ⟨[(0,.c (.arr (.sl (.int .u8)))),(3,.c (.it .i64))],[]⟩
 to := fun v => ⟨v.1.1,v.1.2.1⟩
 fr := fun x => ((x.l,(x.size,())),())
noncomputable def s0 (x : p0X) : Option (p0X ⊕ q0X) := bif decide (x.i < x.n) then bif inR x.i x.l9.length then bif decide (IntKind.i64.wrap (x.size + (↑(List.length (x.l9[x.i.toNat]?.getD [])) : Int)) < 0) then none else some (Sum.inl { l := x.l,size := IntKind.i64.wrap (x.size + (↑(List.length (x.l9[x.i.toNat]?.getD [])) : Int)),l9 := x.l9,n := x.n,i := IntKind.i64.wrap (x.i + 1) }) else none
else some (Sum.inr { l := x.l,size := x.size })
theorem s0_eq (x : p0X) : exec E1 36 (C49.bodyAt 0) 1 (p0.R x) (p0.H x) (roundK 0 p0 (.exit 0) q0) = s0 x := by kernel_rfl
noncomputable def l0 : LoopS := mkLoop 0 p0 (.exit 0) q0 s0
theorem tl0 : topL (C49.bodyAt 0) 1 = [] := by kernel_rfl
theorem l0_ok  : LoopOkS Try.prog 36 none 0 (C49.bodyAt 0) l0 := mkLoop_ok mixed (env_ok ty_ok cl_ok _) (by trivial) (fun _ => rfl) (fun _ => rfl) (tl0 ▸ AllL.nil) s0_eq
noncomputable def E0 : Env := ⟨ty,cfOf cl,lpOf [(0,l0),(1,l1)],none⟩
noncomputable def m (x : gX) : Option fY := bindO (iter s0 { l := x.l,size := 0,l9 := x.l,n := (↑x.l.length : Int),i := 0 }) fun y => bindO (M55.m { n := y.size }) fun y_1 => bindO (iter s1 { s_lo := y_1.fst,s_len := y_1.snd.fst,l := y.l,n := (↑y.l.length : Int),i := 0,xs := y_1.snd.snd }) fun y => bif leB (y.s_lo + y.s_len) y.xs.length && true && true then some (List.take y.s_len (List.drop y.s_lo y.xs)) else none
theorem m_eq (x : gX) : exec E0 36 C49 0 (initS 0 (g.A x)) (g.H x) (finish 0 ty [.tmp 2] f) = m x := by kernel_rfl
theorem tl : topL C49 0 = [(0,C49.bodyAt 0),(1,C49.bodyAt 1)] := by kernel_rfl
theorem known : Known Try.prog 49 g f m :=
 mk_known mixed (env_ok ty_ok cl_ok _) s49 rfl rfl tl (AllL.cons rfl l0_ok (AllL.cons rfl l1_ok AllL.nil)) (fun _ _ => ⟨rfl,rfl⟩) (fun _ _ => ⟨rfl,rfl⟩) m_eq
noncomputable def con : Con := conT g f m default
theorem con_ok : ConOk Try.prog 49 con := conT_ok known (fun _ => rfl) rfl
end M49
namespace M35
structure gX where
 i : List (Int)
 s : List (Int)
def g : Sg gX where
 vs := [.agg [.arr (.int .u8),.arr (.int .u8)]]
 h := []
 to := fun a b => ⟨a.1.1,a.1.2.1⟩
 fa := fun x => ((x.i,(x.s,())),())
 fh := fun x => ()
abbrev fY := List (Int)
def f : Ft fY where
 ord := none
 sh := .c (.arr (.int .u8))
 h := []
 to := fun a b => (a)
 fv := fun y => y
 fh := fun y => ()
noncomputable def cl : List (FuncId × Con) := [(49,M49.con)]
theorem cl_ok : allCon Try.prog cl := ⟨M49.con_ok,trivial⟩
noncomputable def E0 : Env := ⟨ty,cfOf cl,fun _ => none,none⟩
noncomputable def m (x : gX) : Option fY := bindO (M49.m { l := [x.i,x.s] }) fun y => some y
theorem m_eq (x : gX) : exec E0 9 C35 0 (initS 0 (g.A x)) (g.H x) (finish 0 ty [.tmp 2] f) = m x := by kernel_rfl
theorem tl : topL C35 0 = [] := by kernel_rfl
theorem known : Known Try.prog 35 g f m :=
 mk_known mixed (env_ok ty_ok cl_ok _) s35 rfl rfl tl AllL.nil (fun _ _ => ⟨rfl,rfl⟩) (fun _ _ => ⟨rfl,rfl⟩) m_eq
noncomputable def con : Con := conT g f m default
theorem con_ok : ConOk Try.prog 35 con := conT_ok known (fun _ => rfl) rfl
end M35
end Go.Proofs.Ytnmlmdlhhphcoaa
namespace Go.Proofs.Ytnmlmdlhhphcoaa
open Go.Abs
set_option maxRecDepth 100000
namespace M37c
structure gX where
 ai : List (Int)
 as_ : List (Int)
 bi : List (Int)
 bs : List (Int)
def g : Sg gX where
 vs := [.agg [.arr (.int .u8),.arr (.int .u8)],.agg [.arr (.int .u8),.arr (.int .u8)],.c (.fn 38)]
 h := []
 to := fun a b => ⟨a.1.1,a.1.2.1,a.2.1.1,a.2.1.2.1⟩
 fa := fun x => ((x.ai,(x.as_,())),((x.bi,(x.bs,())),((),())))
 fh := fun x => ()
abbrev fY := Int
def f : Ft fY where
 ord := none
 sh := .c (.it .i64)
 h := []
 to := fun a b => (a)
 fv := fun y => y
 fh := fun y => ()
noncomputable def cl : List (FuncId × Con) := [(33,M33.con),(35,M35.con),(36,M36.con),(38,M38.con)]
theorem cl_ok : allCon Try.prog cl := ⟨M33.con_ok,M35.con_ok,M36.con_ok,M38.con_ok,trivial⟩
def R0 : CC := C37.rngAt 0
noncomputable def EB0_0 : Env := ⟨ty,cfOf cl,fun _ => none,none⟩
structure bp0X where
 i : Int
 v : Int
 n0 : Int
 l : List (Int)
 bi : List (Int)
 bs : List (Int)
def bp0 : Pt bp0X where
 own := []
 t := ⟨[(5,.c (.ptr 2 0)),(6,.c (.ptr 3 0)),(7,.c (.ptr 4 0)),(18,.c (.it .i64)),(19,.c (.ip (.int .u8) 0)),(1000000,.c (.clo 1000000 [])),(1000001,.c (.ptr 5 0)),(2000005,.c (.ptr 2 0)),(2000006,.c (.ptr 3 0)),(2000007,.c (.ptr 4 0))],[.st [.junk,.junk] 1 0,.st [.junk,.junk] 1 0,.st [.fn 38] 1 0,.st [.it .i64] 1 0,.st [.arr (.int .u8)] 1 0,.st [.arr (.int .u8),.arr (.int .u8)] 1 0]⟩
 to := fun v => ⟨v.1.2.2.2.1,v.1.2.2.2.2.1,v.2.2.2.2.1.1,v.2.2.2.2.2.1.1,v.2.2.2.2.2.2.1.1,v.2.2.2.2.2.2.1.2.1⟩
 fr := fun x => (((),((),((),(x.i,(x.v,((),((),((),((),((),())))))))))),(((),((),())),(((),((),())),(((),()),((x.n0,()),((x.l,()),((x.bi,(x.bs,())),())))))))
structure bq0X where
 n0 : Int
 l : List (Int)
 bi : List (Int)
 bs : List (Int)
def bq0 : Pt bq0X where
 own := []
 t := ⟨[(1000000,.c (.clo 1000000 [])),(1000001,.c (.ptr 5 0)),(2000005,.c (.ptr 2 0)),(2000006,.c (.ptr 3 0)),(2000007,.c (.ptr 4 0))],[.st [.junk,.junk] 1 0,.st [.junk,.junk] 1 0,.st [.fn 38] 1 0,.st [.it .i64] 1 0,.st [.arr (.int .u8)] 1 0,.st [.arr (.int .u8),.arr (.int .u8)] 1 0]⟩
 to := fun v => ⟨v.2.2.2.2.1.1,v.2.2.2.2.2.1.1,v.2.2.2.2.2.2.1.1,v.2.2.2.2.2.2.1.2.1⟩
 fr := fun x => (((),((),((),((),((),()))))),(((),((),())),(((),((),())),(((),()),((x.n0,()),((x.l,()),((x.bi,(x.bs,())),())))))))
noncomputable def sb0 (x : bp0X) : Option bq0X := bif inR x.i x.l.length then bindO (M38.m { x := x.v,y := x.l[x.i.toNat]?.getD 0 }) fun y => bif y then some { n0 := IntKind.i64.wrap (x.n0 + 1),l := x.l,bi := x.bi,bs := x.bs } else some { n0 := x.n0,l := x.l,bi := x.bi,bs := x.bs }
else none
theorem sb0_eq (x : bp0X) : roundRun EB0_0 32 R0.rA R0.rB (bp0.R x) (bp0.H x) (endK 0 bq0) = sb0 x := by kernel_rfl
noncomputable def ub0 : LoopS := mkUnit 0 bp0 bq0 sb0
theorem ta0 : topL R0.rA 0 = [] := by kernel_rfl
theorem tb0 : topL R0.rB R0.rA.nl = [] := by kernel_rfl
theorem ub0_ok {y : YI} (hy : Rnd R0.rA R0.rB R0.rP 32 y) : BodyOkS Try.prog 32 0 y.assign y.body ub0 := mkBody_ok mixed (env_ok ty_ok cl_ok _) rfl ⟨by kernel_rfl,by kernel_rfl⟩ (fun _ => rfl) (fun _ => rfl) (fun _ => ta0 ▸ AllL.nil) (fun l => tb0 ▸ AllL.nil) sb0_eq hy
noncomputable def EI0_2 : Env := ⟨ty,cfOf cl,fun _ => none,some (R0.rP,ub0)⟩
theorem yi0_2 {y : YI} (hy : Rnd R0.rA R0.rB R0.rP 32 y) : YldOk Try.prog 0 EI0_2 (some y) := yld_ok rfl (by kernel_rfl) (by kernel_rfl) ub0_ok hy
structure i0_p1X where
 n2 : Int
 i2 : Int
 n0 : Int
 l : List (Int)
 bi : List (Int)
 bs : List (Int)
def i0_p1 : Pt i0_p1X where
 own := []
 t := ⟨[(0,.c (.clo 1000000 [])),(1,.c (.ptr 5 0)),(22,.c (.it .i64)),(23,.c (.it .i64)),(2000005,.c (.ptr 2 0)),(2000006,.c (.ptr 3 0)),(2000007,.c (.ptr 4 0)),(3000000,.c (.fn 0))],[.st [.junk,.junk] 1 0,.st [.junk,.junk] 1 0,.st [.fn 38] 1 0,.st [.it .i64] 1 0,.st [.arr (.int .u8)] 1 0,.st [.arr (.int .u8),.arr (.int .u8)] 1 0]⟩
 to := fun v => ⟨v.1.2.2.1,v.1.2.2.2.1,v.2.2.2.2.1.1,v.2.2.2.2.2.1.1,v.2.2.2.2.2.2.1.1,v.2.2.2.2.2.2.1.2.1⟩
 fr := fun x => (((),((),(x.n2,(x.i2,((),((),((),((),())))))))),(((),((),())),(((),((),())),(((),()),((x.n0,()),((x.l,()),((x.bi,(x.bs,())),())))))))
structure i0_q1X where
 n0 : Int
 l : List (Int)
 bi : List (Int)
 bs : List (Int)
def i0_q1 : Pt i0_q1X where
 own := []
 t := ⟨[(2000005,.c (.ptr 2 0)),(2000006,.c (.ptr 3 0)),(2000007,.c (.ptr 4 0)),(3000000,.c (.fn 0))],[.st [.junk,.junk] 1 0,.st [.junk,.junk] 1 0,.st [.fn 38] 1 0,.st [.it .i64] 1 0,.st [.arr (.int .u8)] 1 0,.st [.arr (.int .u8),.arr (.int .u8)] 1 0]⟩
 to := fun v => ⟨v.2.2.2.2.1.1,v.2.2.2.2.2.1.1,v.2.2.2.2.2.2.1.1,v.2.2.2.2.2.2.1.2.1⟩
 fr := fun x => (((),((),((),((),())))),(((),((),())),(((),((),())),(((),()),((x.n0,()),((x.l,()),((x.bi,(x.bs,())),())))))))
noncomputable def i0_s1 (x : i0_p1X) : Option (i0_p1X ⊕ i0_q1X) := bif decide (x.i2 < x.n2) then bif inR x.i2 x.bs.length then bindO (sb0 { i := IntKind.i64.wrap ((↑x.bi.length : Int) + x.i2),v := x.bs[x.i2.toNat]?.getD 0,n0 := x.n0,l := x.l,bi := x.bi,bs := x.bs }) fun y => some (Sum.inl { n2 := x.n2,i2 := IntKind.i64.wrap (x.i2 + 1),n0 := y.n0,l := y.l,bi := y.bi,bs := y.bs }) else none
else some (Sum.inr { n0 := x.n0,l := x.l,bi := x.bi,bs := x.bs })
theorem i0_s1_eq (x : i0_p1X) : exec EI0_2 39 (C50.bodyAt 1) 2 (i0_p1.R x) (i0_p1.H x) (roundK 0 i0_p1 (.exit 2) i0_q1) = i0_s1 x := by kernel_rfl
noncomputable def i0_l1 : LoopS := mkLoop 0 i0_p1 (.exit 2) i0_q1 i0_s1
theorem ti0_l1 : topL (C50.bodyAt 1) 2 = [] := by kernel_rfl
theorem i0_l1_ok {y : YI} (hy : Rnd R0.rA R0.rB R0.rP 32 y) : LoopOkS Try.prog 39 none 0 (C50.bodyAt 1) i0_l1 (some y) := mkLoop_ok mixed (env_ok ty_ok cl_ok _) (by trivial) (fun _ => rfl) (fun _ => rfl) (ti0_l1 ▸ AllL.nil) i0_s1_eq (hyk := yi0_2 hy)
noncomputable def EI0_1 : Env := ⟨ty,cfOf cl,lpOf [(1,i0_l1)],some (R0.rP,ub0)⟩
theorem yi0_1 {y : YI} (hy : Rnd R0.rA R0.rB R0.rP 32 y) : YldOk Try.prog 0 EI0_1 (some y) := yld_ok rfl (by kernel_rfl) (by kernel_rfl) ub0_ok hy
structure i0_p0X where
 n : Int
 i : Int
 n0 : Int
 l : List (Int)
 bi : List (Int)
 bs : List (Int)
def i0_p0 : Pt i0_p0X where
 own := []
 t := ⟨[(0,.c (.clo 1000000 [])),(1,.c (.ptr 5 0)),(7,.c (.it .i64)),(8,.c (.it .i64)),(2000005,.c (.ptr 2 0)),(2000006,.c (.ptr 3 0)),(2000007,.c (.ptr 4 0)),(3000000,.c (.fn 0))],[.st [.junk,.junk] 1 0,.st [.junk,.junk] 1 0,.st [.fn 38] 1 0,.st [.it .i64] 1 0,.st [.arr (.int .u8)] 1 0,.st [.arr (.int .u8),.arr (.int .u8)] 1 0]⟩
 to := fun v => ⟨v.1.2.2.1,v.1.2.2.2.1,v.2.2.2.2.1.1,v.2.2.2.2.2.1.1,v.2.2.2.2.2.2.1.1,v.2.2.2.2.2.2.1.2.1⟩
 fr := fun x => (((),((),(x.n,(x.i,((),((),((),((),())))))))),(((),((),())),(((),((),())),(((),()),((x.n0,()),((x.l,()),((x.bi,(x.bs,())),())))))))
structure i0_q0X where
 n0 : Int
 l : List (Int)
 bi : List (Int)
 bs : List (Int)
def i0_q0 : Pt i0_q0X where
 own := []
 t := ⟨[(0,.c (.clo 1000000 [])),(1,.c (.ptr 5 0)),(2000005,.c (.ptr 2 0)),(2000006,.c (.ptr 3 0)),(2000007,.c (.ptr 4 0)),(3000000,.c (.fn 0))],[.st [.junk,.junk] 1 0,.st [.junk,.junk] 1 0,.st [.fn 38] 1 0,.st [.it .i64] 1 0,.st [.arr (.int .u8)] 1 0,.st [.arr (.int .u8),.arr (.int .u8)] 1 0]⟩
 to := fun v => ⟨v.2.2.2.2.1.1,v.2.2.2.2.2.1.1,v.2.2.2.2.2.2.1.1,v.2.2.2.2.2.2.1.2.1⟩
 fr := fun x => (((),((),((),((),((),((),())))))),(((),((),())),(((),((),())),(((),()),((x.n0,()),((x.l,()),((x.bi,(x.bs,())),())))))))
noncomputable def i0_s0 (x : i0_p0X) : Option (i0_p0X ⊕ i0_q0X) := bif decide (x.i < x.n) then bif inR x.i x.bi.length then bindO (sb0 { i := x.i,v := x.bi[x.i.toNat]?.getD 0,n0 := x.n0,l := x.l,bi := x.bi,bs := x.bs }) fun y => some (Sum.inl { n := x.n,i := IntKind.i64.wrap (x.i + 1),n0 := y.n0,l := y.l,bi := y.bi,bs := y.bs }) else none
else some (Sum.inr { n0 := x.n0,l := x.l,bi := x.bi,bs := x.bs })
theorem i0_s0_eq (x : i0_p0X) : exec EI0_1 39 (C50.bodyAt 0) 1 (i0_p0.R x) (i0_p0.H x) (roundK 0 i0_p0 (.exit 0) i0_q0) = i0_s0 x := by kernel_rfl
noncomputable def i0_l0 : LoopS := mkLoop 0 i0_p0 (.exit 0) i0_q0 i0_s0
theorem ti0_l0 : topL (C50.bodyAt 0) 1 = [] := by kernel_rfl
theorem i0_l0_ok {y : YI} (hy : Rnd R0.rA R0.rB R0.rP 32 y) : LoopOkS Try.prog 39 none 0 (C50.bodyAt 0) i0_l0 (some y) := mkLoop_ok mixed (env_ok ty_ok cl_ok _) (by trivial) (fun _ => rfl) (fun _ => rfl) (ti0_l0 ▸ AllL.nil) i0_s0_eq (hyk := yi0_1 hy)
noncomputable def EI0_0 : Env := ⟨ty,cfOf cl,lpOf [(0,i0_l0),(1,i0_l1)],some (R0.rP,ub0)⟩
theorem yi0_0 {y : YI} (hy : Rnd R0.rA R0.rB R0.rP 32 y) : YldOk Try.prog 0 EI0_0 (some y) := yld_ok rfl (by kernel_rfl) (by kernel_rfl) ub0_ok hy
structure p0X where
 n0 : Int
 l : List (Int)
 bi : List (Int)
 bs : List (Int)
def p0 : Pt p0X where
 own := []
 t := ⟨[(5,.c (.ptr 2 0)),(6,.c (.ptr 3 0)),(7,.c (.ptr 4 0)),(17,.c (.clo 50 [⟨5,0,0⟩]))],[.st [.junk,.junk] 1 0,.st [.junk,.junk] 1 0,.st [.fn 38] 1 0,.st [.it .i64] 1 0,.st [.arr (.int .u8)] 1 0,.st [.arr (.int .u8),.arr (.int .u8)] 1 0]⟩
 to := fun v => ⟨v.2.2.2.2.1.1,v.2.2.2.2.2.1.1,v.2.2.2.2.2.2.1.1,v.2.2.2.2.2.2.1.2.1⟩
 fr := fun x => (((),((),((),((),())))),(((),((),())),(((),((),())),(((),()),((x.n0,()),((x.l,()),((x.bi,(x.bs,())),())))))))
structure q0X where
 n0 : Int
 l : List (Int)
 bi : List (Int)
 bs : List (Int)
def q0 : Pt q0X where
 own := []
 t := ⟨[(5,.c (.ptr 2 0)),(6,.c (.ptr 3 0)),(7,.c (.ptr 4 0))],[.st [.junk,.junk] 1 0,.st [.junk,.junk] 1 0,.st [.fn 38] 1 0,.st [.it .i64] 1 0,.st [.arr (.int .u8)] 1 0,.st [.arr (.int .u8),.arr (.int .u8)] 1 0]⟩
 to := fun v => ⟨v.2.2.2.2.1.1,v.2.2.2.2.2.1.1,v.2.2.2.2.2.2.1.1,v.2.2.2.2.2.2.1.2.1⟩
 fr := fun x => (((),((),((),()))),(((),((),())),(((),((),())),(((),()),((x.n0,()),((x.l,()),((x.bi,(x.bs,())),())))))))
noncomputable def s0 (x : p0X) : Option q0X := bindO (iter i0_s0 { n := (↑x.bi.length : Int),i := 0,n0 := x.n0,l := x.l,bi := x.bi,bs := x.bs }) fun y => bindO (iter i0_s1 { n2 := (↑y.bs.length : Int),i2 := 0,n0 := y.n0,l := y.l,bi := y.bi,bs := y.bs }) fun y => some { n0 := y.n0,l := y.l,bi := y.bi,bs := y.bs }
theorem s0_eq (x : p0X) : rngRun EI0_0 39 C50 50 R0.rF (p0.R x) (p0.H x) (leaveK (endK 0 q0)) = s0 x := by kernel_rfl
noncomputable def l0 : LoopS := mkUnit 0 p0 q0 s0
theorem ti0 : topL C50 0 = [(0,C50.bodyAt 0),(1,C50.bodyAt 1)] := by kernel_rfl
theorem l0_ok : RngOkS Try.prog 32 0 R0.rF R0.rP R0.rA R0.rB l0 := mkRng_ok mixed (env_ok ty_ok cl_ok _) (fun hy => yi0_0 hy) s50 (by kernel_rfl) (fun hy => ti0 ▸ (AllL.cons rfl (i0_l0_ok hy) (AllL.cons rfl (i0_l1_ok hy) AllL.nil))) (fun _ => rfl) (fun _ => rfl) s0_eq
noncomputable def E0 : Env := ⟨ty,cfOf cl,lpOf [(0,l0)],none⟩
theorem ur : rngs C37 0 = [(0,R0)] := by kernel_rfl
noncomputable def m (x : gX) : Option fY := bindO (M33.m { ai := x.ai,as_ := x.as_,bi := x.bi,bs := x.bs }) fun y => bif y != 0 then some (-1) else bindO (M35.m { i := x.bi,s := x.bs }) fun y => bindO (M36.m { i := x.ai,s := x.as_ }) fun y_1 => bindO (s0 { n0 := 0,l := y,bi := y_1.fst,bs := y_1.snd }) fun y => some y.n0
theorem m_eq (x : gX) : exec E0 32 C37 0 (initS 0 (g.A x)) (g.H x) (finish 0 ty [.cell 6 3] f) = m x := by kernel_rfl
theorem tl : topL C37 0 = [] := by kernel_rfl
theorem known : Known Try.prog 37 g f m :=
 mk_known mixed (env_ok ty_ok cl_ok _) s37 rfl rfl tl AllL.nil (fun _ _ => ⟨rfl,rfl⟩) (fun _ _ => ⟨rfl,rfl⟩) m_eq (hg := RgOk.of rfl (ur ▸ (AllR.cons rfl rfl l0_ok AllR.nil)))
noncomputable def con : Con := conT g f m default
theorem con_ok : ConOk Try.prog 37 con := conT_ok known (fun _ => rfl) rfl
end M37c
namespace M37d
structure gX where
 ai : List (Int)
 as_ : List (Int)
 bi : List (Int)
 bs : List (Int)
def g : Sg gX where
 vs := [.agg [.arr (.int .u8),.arr (.int .u8)],.agg [.arr (.int .u8),.arr (.int .u8)],.c (.fn 39)]
 h := []
 to := fun a b => ⟨a.1.1,a.1.2.1,a.2.1.1,a.2.1.2.1⟩
 fa := fun x => ((x.ai,(x.as_,())),((x.bi,(x.bs,())),((),())))
 fh := fun x => ()
abbrev fY := Int
def f : Ft fY where
 ord := none
 sh := .c (.it .i64)
 h := []
 to := fun a b => (a)
 fv := fun y => y
 fh := fun y => ()
noncomputable def cl : List (FuncId × Con) := [(33,M33.con),(35,M35.con),(36,M36.con),(39,M39.con)]
theorem cl_ok : allCon Try.prog cl := ⟨M33.con_ok,M35.con_ok,M36.con_ok,M39.con_ok,trivial⟩
def R0 : CC := C37.rngAt 0
noncomputable def EB0_0 : Env := ⟨ty,cfOf cl,fun _ => none,none⟩
structure bp0X where
 i : Int
 v : Int
 n0 : Int
 l : List (Int)
 bi : List (Int)
 bs : List (Int)
def bp0 : Pt bp0X where
 own := []
 t := ⟨[(5,.c (.ptr 2 0)),(6,.c (.ptr 3 0)),(7,.c (.ptr 4 0)),(18,.c (.it .i64)),(19,.c (.ip (.int .u8) 0)),(1000000,.c (.clo 1000000 [])),(1000001,.c (.ptr 5 0)),(2000005,.c (.ptr 2 0)),(2000006,.c (.ptr 3 0)),(2000007,.c (.ptr 4 0))],[.st [.junk,.junk] 1 0,.st [.junk,.junk] 1 0,.st [.fn 39] 1 0,.st [.it .i64] 1 0,.st [.arr (.int .u8)] 1 0,.st [.arr (.int .u8),.arr (.int .u8)] 1 0]⟩
 to := fun v => ⟨v.1.2.2.2.1,v.1.2.2.2.2.1,v.2.2.2.2.1.1,v.2.2.2.2.2.1.1,v.2.2.2.2.2.2.1.1,v.2.2.2.2.2.2.1.2.1⟩
 fr := fun x => (((),((),((),(x.i,(x.v,((),((),((),((),((),())))))))))),(((),((),())),(((),((),())),(((),()),((x.n0,()),((x.l,()),((x.bi,(x.bs,())),())))))))
structure bq0X where
 n0 : Int
 l : List (Int)
 bi : List (Int)
 bs : List (Int)
def bq0 : Pt bq0X where
 own := []
 t := ⟨[(1000000,.c (.clo 1000000 [])),(1000001,.c (.ptr 5 0)),(2000005,.c (.ptr 2 0)),(2000006,.c (.ptr 3 0)),(2000007,.c (.ptr 4 0))],[.st [.junk,.junk] 1 0,.st [.junk,.junk] 1 0,.st [.fn 39] 1 0,.st [.it .i64] 1 0,.st [.arr (.int .u8)] 1 0,.st [.arr (.int .u8),.arr (.int .u8)] 1 0]⟩
 to := fun v => ⟨v.2.2.2.2.1.1,v.2.2.2.2.2.1.1,v.2.2.2.2.2.2.1.1,v.2.2.2.2.2.2.1.2.1⟩
 fr := fun x => (((),((),((),((),((),()))))),(((),((),())),(((),((),())),(((),()),((x.n0,()),((x.l,()),((x.bi,(x.bs,())),())))))))
noncomputable def sb0 (x : bp0X) : Option bq0X := bif inR x.i x.l.length then bindO (M39.m { x := x.v,y := x.l[x.i.toNat]?.getD 0 }) fun y => bif y then some { n0 := IntKind.i64.wrap (x.n0 + 1),l := x.l,bi := x.bi,bs := x.bs } else some { n0 := x.n0,l := x.l,bi := x.bi,bs := x.bs }
else none
theorem sb0_eq (x : bp0X) : roundRun EB0_0 32 R0.rA R0.rB (bp0.R x) (bp0.H x) (endK 0 bq0) = sb0 x := by kernel_rfl
noncomputable def ub0 : LoopS := mkUnit 0 bp0 bq0 sb0
theorem ta0 : topL R0.rA 0 = [] := by kernel_rfl
theorem tb0 : topL R0.rB R0.rA.nl = [] := by kernel_rfl
theorem ub0_ok {y : YI} (hy : Rnd R0.rA R0.rB R0.rP 32 y) : BodyOkS Try.prog 32 0 y.assign y.body ub0 := mkBody_ok mixed (env_ok ty_ok cl_ok _) rfl ⟨by kernel_rfl,by kernel_rfl⟩ (fun _ => rfl) (fun _ => rfl) (fun _ => ta0 ▸ AllL.nil) (fun l => tb0 ▸ AllL.nil) sb0_eq hy
noncomputable def EI0_2 : Env := ⟨ty,cfOf cl,fun _ => none,some (R0.rP,ub0)⟩
theorem yi0_2 {y : YI} (hy : Rnd R0.rA R0.rB R0.rP 32 y) : YldOk Try.prog 0 EI0_2 (some y) := yld_ok rfl (by kernel_rfl) (by kernel_rfl) ub0_ok hy
structure i0_p1X where
 n2 : Int
 i2 : Int
 n0 : Int
 l : List (Int)
 bi : List (Int)
 bs : List (Int)
def i0_p1 : Pt i0_p1X where
 own := []
 t := ⟨[(0,.c (.clo 1000000 [])),(1,.c (.ptr 5 0)),(22,.c (.it .i64)),(23,.c (.it .i64)),(2000005,.c (.ptr 2 0)),(2000006,.c (.ptr 3 0)),(2000007,.c (.ptr 4 0)),(3000000,.c (.fn 0))],[.st [.junk,.junk] 1 0,.st [.junk,.junk] 1 0,.st [.fn 39] 1 0,.st [.it .i64] 1 0,.st [.arr (.int .u8)] 1 0,.st [.arr (.int .u8),.arr (.int .u8)] 1 0]⟩
 to := fun v => ⟨v.1.2.2.1,v.1.2.2.2.1,v.2.2.2.2.1.1,v.2.2.2.2.2.1.1,v.2.2.2.2.2.2.1.1,v.2.2.2.2.2.2.1.2.1⟩
 fr := fun x => (((),((),(x.n2,(x.i2,((),((),((),((),())))))))),(((),((),())),(((),((),())),(((),()),((x.n0,()),((x.l,()),((x.bi,(x.bs,())),())))))))
structure i0_q1X where
 n0 : Int
 l : List (Int)
 bi : List (Int)
 bs : List (Int)
def i0_q1 : Pt i0_q1X where
 own := []
 t := ⟨[(2000005,.c (.ptr 2 0)),(2000006,.c (.ptr 3 0)),(2000007,.c (.ptr 4 0)),(3000000,.c (.fn 0))],[.st [.junk,.junk] 1 0,.st [.junk,.junk] 1 0,.st [.fn 39] 1 0,.st [.it .i64] 1 0,.st [.arr (.int .u8)] 1 0,.st [.arr (.int .u8),.arr (.int .u8)] 1 0]⟩
 to := fun v => ⟨v.2.2.2.2.1.1,v.2.2.2.2.2.1.1,v.2.2.2.2.2.2.1.1,v.2.2.2.2.2.2.1.2.1⟩
 fr := fun x => (((),((),((),((),())))),(((),((),())),(((),((),())),(((),()),((x.n0,()),((x.l,()),((x.bi,(x.bs,())),())))))))
noncomputable def i0_s1 (x : i0_p1X) : Option (i0_p1X ⊕ i0_q1X) := bif decide (x.i2 < x.n2) then bif inR x.i2 x.bs.length then bindO (sb0 { i := IntKind.i64.wrap ((↑x.bi.length : Int) + x.i2),v := x.bs[x.i2.toNat]?.getD 0,n0 := x.n0,l := x.l,bi := x.bi,bs := x.bs }) fun y => some (Sum.inl { n2 := x.n2,i2 := IntKind.i64.wrap (x.i2 + 1),n0 := y.n0,l := y.l,bi := y.bi,bs := y.bs }) else none
else some (Sum.inr { n0 := x.n0,l := x.l,bi := x.bi,bs := x.bs })
theorem i0_s1_eq (x : i0_p1X) : exec EI0_2 39 (C50.bodyAt 1) 2 (i0_p1.R x) (i0_p1.H x) (roundK 0 i0_p1 (.exit 2) i0_q1) = i0_s1 x := by kernel_rfl
noncomputable def i0_l1 : LoopS := mkLoop 0 i0_p1 (.exit 2) i0_q1 i0_s1
theorem ti0_l1 : topL (C50.bodyAt 1) 2 = [] := by kernel_rfl
theorem i0_l1_ok {y : YI} (hy : Rnd R0.rA R0.rB R0.rP 32 y) : LoopOkS Try.prog 39 none 0 (C50.bodyAt 1) i0_l1 (some y) := mkLoop_ok mixed (env_ok ty_ok cl_ok _) (by trivial) (fun _ => rfl) (fun _ => rfl) (ti0_l1 ▸ AllL.nil) i0_s1_eq (hyk := yi0_2 hy)
noncomputable def EI0_1 : Env := ⟨ty,cfOf cl,lpOf [(1,i0_l1)],some (R0.rP,ub0)⟩
theorem yi0_1 {y : YI} (hy : Rnd R0.rA R0.rB R0.rP 32 y) : YldOk Try.prog 0 EI0_1 (some y) := yld_ok rfl (by kernel_rfl) (by kernel_rfl) ub0_ok hy
structure i0_p0X where
 n : Int
 i : Int
 n0 : Int
 l : List (Int)
 bi : List (Int)
 bs : List (Int)
def i0_p0 : Pt i0_p0X where
 own := []
 t := ⟨[(0,.c (.clo 1000000 [])),(1,.c (.ptr 5 0)),(7,.c (.it .i64)),(8,.c (.it .i64)),(2000005,.c (.ptr 2 0)),(2000006,.c (.ptr 3 0)),(2000007,.c (.ptr 4 0)),(3000000,.c (.fn 0))],[.st [.junk,.junk] 1 0,.st [.junk,.junk] 1 0,.st [.fn 39] 1 0,.st [.it .i64] 1 0,.st [.arr (.int .u8)] 1 0,.st [.arr (.int .u8),.arr (.int .u8)] 1 0]⟩
 to := fun v => ⟨v.1.2.2.1,v.1.2.2.2.1,v.2.2.2.2.1.1,v.2.2.2.2.2.1.1,v.2.2.2.2.2.2.1.1,v.2.2.2.2.2.2.1.2.1⟩
 fr := fun x => (((),((),(x.n,(x.i,((),((),((),((),())))))))),(((),((),())),(((),((),())),(((),()),((x.n0,()),((x.l,()),((x.bi,(x.bs,())),())))))))
structure i0_q0X where
 n0 : Int
 l : List (Int)
 bi : List (Int)
 bs : List (Int)
def i0_q0 : Pt i0_q0X where
 own := []
 t := ⟨[(0,.c (.clo 1000000 [])),(1,.c (.ptr 5 0)),(2000005,.c (.ptr 2 0)),(2000006,.c (.ptr 3 0)),(2000007,.c (.ptr 4 0)),(3000000,.c (.fn 0))],[.st [.junk,.junk] 1 0,.st [.junk,.junk] 1 0,.st [.fn 39] 1 0,.st [.it .i64] 1 0,.st [.arr (.int .u8)] 1 0,.st [.arr (.int .u8),.arr (.int .u8)] 1 0]⟩
 to := fun v => ⟨v.2.2.2.2.1.1,v.2.2.2.2.2.1.1,v.2.2.2.2.2.2.1.1,v.2.2.2.2.2.2.1.2.1⟩
 fr := fun x => (((),((),((),((),((),((),())))))),(((),((),())),(((),((),())),(((),()),((x.n0,()),((x.l,()),((x.bi,(x.bs,())),())))))))
noncomputable def i0_s0 (x : i0_p0X) : Option (i0_p0X ⊕ i0_q0X) := bif decide (x.i < x.n) then bif inR x.i x.bi.length then bindO (sb0 { i := x.i,v := x.bi[x.i.toNat]?.getD 0,n0 := x.n0,l := x.l,bi := x.bi,bs := x.bs }) fun y => some (Sum.inl { n := x.n,i := IntKind.i64.wrap (x.i + 1),n0 := y.n0,l := y.l,bi := y.bi,bs := y.bs }) else none
else some (Sum.inr { n0 := x.n0,l := x.l,bi := x.bi,bs := x.bs })
theorem i0_s0_eq (x : i0_p0X) : exec EI0_1 39 (C50.bodyAt 0) 1 (i0_p0.R x) (i0_p0.H x) (roundK 0 i0_p0 (.exit 0) i0_q0) = i0_s0 x := by kernel_rfl
noncomputable def i0_l0 : LoopS := mkLoop 0 i0_p0 (.exit 0) i0_q0 i0_s0
theorem ti0_l0 : topL (C50.bodyAt 0) 1 = [] := by kernel_rfl
theorem i0_l0_ok {y : YI} (hy : Rnd R0.rA R0.rB R0.rP 32 y) : LoopOkS Try.prog 39 none 0 (C50.bodyAt 0) i0_l0 (some y) := mkLoop_ok mixed (env_ok ty_ok cl_ok _) (by trivial) (fun _ => rfl) (fun _ => rfl) (ti0_l0 ▸ AllL.nil) i0_s0_eq (hyk := yi0_1 hy)
noncomputable def EI0_0 : Env := ⟨ty,cfOf cl,lpOf [(0,i0_l0),(1,i0_l1)],some (R0.rP,ub0)⟩
theorem yi0_0 {y : YI} (hy : Rnd R0.rA R0.rB R0.rP 32 y) : YldOk Try.prog 0 EI0_0 (some y) := yld_ok rfl (by kernel_rfl) (by kernel_rfl) ub0_ok hy
structure p0X where
 n0 : Int
 l : List (Int)
 bi : List (Int)
 bs : List (Int)
def p0 : Pt p0X where
 own := []
 t := ⟨[(5,.c (.ptr 2 0)),(6,.c (.ptr 3 0)),(7,.c (.ptr 4 0)),(17,.c (.clo 50 [⟨5,0,0⟩]))],[.st [.junk,.junk] 1 0,.st [.junk,.junk] 1 0,.st [.fn 39] 1 0,.st [.it .i64] 1 0,.st [.arr (.int .u8)] 1 0,.st [.arr (.int .u8),.arr (.int .u8)] 1 0]⟩
 to := fun v => ⟨v.2.2.2.2.1.1,v.2.2.2.2.2.1.1,v.2.2.2.2.2.2.1.1,v.2.2.2.2.2.2.1.2.1⟩
 fr := fun x => (((),((),((),((),())))),(((),((),())),(((),((),())),(((),()),((x.n0,()),((x.l,()),((x.bi,(x.bs,())),())))))))
structure q0X where
 n0 : Int
 l : List (Int)
 bi : List (Int)
 bs : List (Int)
def q0 : Pt q0X where
 own := []
 t := ⟨[(5,.c (.ptr 2 0)),(6,.c (.ptr 3 0)),(7,.c (.ptr 4 0))],[.st [.junk,.junk] 1 0,.st [.junk,.junk] 1 0,.st [.fn 39] 1 0,.st [.it .i64] 1 0,.st [.arr (.int .u8)] 1 0,.st [.arr (.int .u8),.arr (.int .u8)] 1 0]⟩
 to := fun v => ⟨v.2.2.2.2.1.1,v.2.2.2.2.2.1.1,v.2.2.2.2.2.2.1.1,v.2.2.2.2.2.2.1.2.1⟩
 fr := fun x => (((),((),((),()))),(((),((),())),(((),((),())),(((),()),((x.n0,()),((x.l,()),((x.bi,(x.bs,())),())))))))
noncomputable def s0 (x : p0X) : Option q0X := bindO (iter i0_s0 { n := (↑x.bi.length : Int),i := 0,n0 := x.n0,l := x.l,bi := x.bi,bs := x.bs }) fun y => bindO (iter i0_s1 { n2 := (↑y.bs.length : Int),i2 := 0,n0 := y.n0,l := y.l,bi := y.bi,bs := y.bs }) fun y => some { n0 := y.n0,l := y.l,bi := y.bi,bs := y.bs }
theorem s0_eq (x : p0X) : rngRun EI0_0 39 C50 50 R0.rF (p0.R x) (p0.H x) (leaveK (endK 0 q0)) = s0 x := by kernel_rfl
noncomputable def l0 : LoopS := mkUnit 0 p0 q0 s0
theorem ti0 : topL C50 0 = [(0,C50.bodyAt 0),(1,C50.bodyAt 1)] := by kernel_rfl
theorem l0_ok : RngOkS Try.prog 32 0 R0.rF R0.rP R0.rA R0.rB l0 := mkRng_ok mixed (env_ok ty_ok cl_ok _) (fun hy => yi0_0 hy) s50 (by kernel_rfl) (fun hy => ti0 ▸ (AllL.cons rfl (i0_l0_ok hy) (AllL.cons rfl (i0_l1_ok hy) AllL.nil))) (fun _ => rfl) (fun _ => rfl) s0_eq
noncomputable def E0 : Env := ⟨ty,cfOf cl,lpOf [(0,l0)],none⟩
theorem ur : rngs C37 0 = [(0,R0)] := by kernel_rfl
noncomputable def m (x : gX) : Option fY := bindO (M33.m { ai := x.ai,as_ := x.as_,bi := x.bi,bs := x.bs }) fun y => bif y != 0 then some (-1) else bindO (M35.m { i := x.bi,s := x.bs }) fun y => bindO (M36.m { i := x.ai,s := x.as_ }) fun y_1 => bindO (s0 { n0 := 0,l := y,bi := y_1.fst,bs := y_1.snd }) fun y => some y.n0
theorem m_eq (x : gX) : exec E0 32 C37 0 (initS 0 (g.A x)) (g.H x) (finish 0 ty [.cell 6 3] f) = m x := by kernel_rfl
theorem tl : topL C37 0 = [] := by kernel_rfl
theorem known : Known Try.prog 37 g f m :=
 mk_known mixed (env_ok ty_ok cl_ok _) s37 rfl rfl tl AllL.nil (fun _ _ => ⟨rfl,rfl⟩) (fun _ _ => ⟨rfl,rfl⟩) m_eq (hg := RgOk.of rfl (ur ▸ (AllR.cons rfl rfl l0_ok AllR.nil)))
noncomputable def con : Con := conT g f m default
theorem con_ok : ConOk Try.prog 37 con := conT_ok known (fun _ => rfl) rfl
end M37d
namespace M18
structure gX where
 ai : List (Int)
 as_ : List (Int)
 bi : List (Int)
 bs : List (Int)
def g : Sg gX where
 vs := [.agg [.arr (.int .u8),.arr (.int .u8)],.agg [.arr (.int .u8),.arr (.int .u8)]]
 h := []
 to := fun a b => ⟨a.1.1,a.1.2.1,a.2.1.1,a.2.1.2.1⟩
 fa := fun x => ((x.ai,(x.as_,())),((x.bi,(x.bs,())),()))
 fh := fun x => ()
abbrev fY := Int
def f : Ft fY where
 ord := none
 sh := .c (.it .i64)
 h := []
 to := fun a b => (a)
 fv := fun y => y
 fh := fun y => ()
noncomputable def cl : List (FuncId × Con) := [(37,M37d.con)]
theorem cl_ok : allCon Try.prog cl := ⟨M37d.con_ok,trivial⟩
noncomputable def E0 : Env := ⟨ty,cfOf cl,fun _ => none,none⟩
noncomputable def m (x : gX) : Option fY := bindO (M37d.m { ai := x.ai,as_ := x.as_,bi := x.bi,bs := x.bs }) fun y => some y
theorem m_eq (x : gX) : exec E0 8 C18 0 (initS 0 (g.A x)) (g.H x) (finish 0 ty [.tmp 4] f) = m x := by kernel_rfl
theorem tl : topL C18 0 = [] := by kernel_rfl
theorem known : Known Try.prog 18 g f m :=
 mk_known mixed (env_ok ty_ok cl_ok _) s18 rfl rfl tl AllL.nil (fun _ _ => ⟨rfl,rfl⟩) (fun _ _ => ⟨rfl,rfl⟩) m_eq
noncomputable def con : Con := conT g f m default
theorem con_ok : ConOk Try.prog 18 con := conT_ok known (fun _ => rfl) rfl
end M18
namespace M16
structure gX where
 ai : List (Int)
 as_ : List (Int)
 bi : List (Int)
 bs : List (Int)
def g : Sg gX where
 vs := [.agg [.arr (.int .u8),.arr (.int .u8)],.agg [.arr (.int .u8),.arr (.int .u8)]]
 h := []
 to := fun a b => ⟨a.1.1,a.1.2.1,a.2.1.1,a.2.1.2.1⟩
 fa := fun x => ((x.ai,(x.as_,())),((x.bi,(x.bs,())),()))
 fh := fun x => ()
abbrev fY := Bool
def f : Ft fY where
 ord := none
 sh := .c (.bo)
 h := []
 to := fun a b => (a)
 fv := fun y => y
 fh := fun y => ()
noncomputable def cl : List (FuncId × Con) := [(18,M18.con)]
theorem cl_ok : allCon Try.prog cl := ⟨M18.con_ok,trivial⟩
noncomputable def E0 : Env := ⟨ty,cfOf cl,fun _ => none,none⟩
noncomputable def m (x : gX) : Option fY := bindO (M18.m { ai := x.ai,as_ := x.as_,bi := x.bi,bs := x.bs }) fun y => some (y == 0)
theorem m_eq (x : gX) : exec E0 9 C16 0 (initS 0 (g.A x)) (g.H x) (finish 0 ty [.tmp 4] f) = m x := by kernel_rfl
theorem tl : topL C16 0 = [] := by kernel_rfl
theorem known : Known Try.prog 16 g f m :=
 mk_known mixed (env_ok ty_ok cl_ok _) s16 rfl rfl tl AllL.nil (fun _ _ => ⟨rfl,rfl⟩) (fun _ _ => ⟨rfl,rfl⟩) m_eq
noncomputable def con : Con := conT g f m default
theorem con_ok : ConOk Try.prog 16 con := conT_ok known (fun _ => rfl) rfl
end M16
namespace M17
structure gX where
 ai : List (Int)
 as_ : List (Int)
 bi : List (Int)
 bs : List (Int)
def g : Sg gX where
 vs := [.agg [.arr (.int .u8),.arr (.int .u8)],.agg [.arr (.int .u8),.arr (.int .u8)]]
 h := []
 to := fun a b => ⟨a.1.1,a.1.2.1,a.2.1.1,a.2.1.2.1⟩
 fa := fun x => ((x.ai,(x.as_,())),((x.bi,(x.bs,())),()))
 fh := fun x => ()
abbrev fY := Bool
def f : Ft fY where
 ord := none
 sh := .c (.bo)
 h := []
 to := fun a b => (a)
 fv := fun y => y
 fh := fun y => ()
noncomputable def cl : List (FuncId × Con) := [(37,M37c.con)]
theorem cl_ok : allCon Try.prog cl := ⟨M37c.con_ok,trivial⟩
noncomputable def E0 : Env := ⟨ty,cfOf cl,fun _ => none,none⟩
noncomputable def m (x : gX) : Option fY := bindO (M37c.m { ai := x.ai,as_ := x.as_,bi := x.bi,bs := x.bs }) fun y => some (y == 0)
theorem m_eq (x : gX) : exec E0 9 C17 0 (initS 0 (g.A x)) (g.H x) (finish 0 ty [.tmp 4] f) = m x := by kernel_rfl
theorem tl : topL C17 0 = [] := by kernel_rfl
theorem known : Known Try.prog 17 g f m :=
 mk_known mixed (env_ok ty_ok cl_ok _) s17 rfl rfl tl AllL.nil (fun _ _ => ⟨rfl,rfl⟩) (fun _ _ => ⟨rfl,rfl⟩) m_eq
noncomputable def con : Con := conT g f m default
theorem con_ok : ConOk Try.prog 17 con := conT_ok known (fun _ => rfl) rfl
end M17
end Go.Proofs.Ytnmlmdlhhphcoaa
namespace Go.Proofs.Ytnmlmdlhhphcoaa
open Go.Abs
set_option maxRecDepth 100000
namespace M13
structure gX where
 ai : List (Int)
 as_ : List (Int)
 bi : List (Int)
 bs : List (Int)
def g : Sg gX where
 vs := [.agg [.arr (.int .u8),.arr (.int .u8)],.agg [.arr (.int .u8),.arr (.int .u8)]]
 h := []
 to := fun a b => ⟨a.1.1,a.1.2.1,a.2.1.1,a.2.1.2.1⟩
 fa := fun x => ((x.ai,(x.as_,())),((x.bi,(x.bs,())),()))
 fh := fun x => ()
abbrev fY := List (Int) × List (Int) × Int
def f : Ft fY where
 ord := none
 sh := .tup [.inr [.arr (.int .u8),.arr (.int .u8)],.inl (.it .i64)]
 h := []
 to := fun a b => (a.1.1,a.1.2.1,a.2.1)
 fv := fun y => ((y.1,(y.2.1,())),(y.2.2,()))
 fh := fun y => ()
noncomputable def cl : List (FuncId × Con) := [(33,M33.con),(16,M16.con),(34,M34.con),(35,M35.con),(36,M36o.con)]
theorem cl_ok : allCon Try.prog cl := ⟨M33.con_ok,M16.con_ok,M34.con_ok,M35.con_ok,M36o.con_ok,trivial⟩
def R0 : CC := C13.rngAt 0
noncomputable def EB0_0 : Env := ⟨ty,cfOf cl,fun _ => none,none⟩
structure bp0aX where
 i : Int
 v : Nat
 xs : List (Int)
 ys : List (Int)
 oi_lo : Nat
 oi_len : Nat
 oi_cap : Nat
 os_lo : Nat
 os_len : Nat
 os_cap : Nat
 l : List (Int)
 bi_lo : Nat
 bi_len : Nat
 bi_cap : Nat
 bs_lo : Nat
 bs_len : Nat
 bs_cap : Nat
def bp0a : Pt bp0aX where
 own := []
 t := ⟨[(4,.c (.ptr 2 0)),(7,.c (.ptr 5 0)),(8,.c (.ptr 6 0)),(29,.c (.it .i64)),(30,.c (.el 3 0 1 0)),(1000000,.c (.clo 1000000 [])),(1000001,.c (.ptr 9 0)),(2000004,.c (.ptr 2 0)),(2000007,.c (.ptr 5 0)),(2000008,.c (.ptr 6 0))],[.st [.junk,.junk] 1 0,.st [.junk,.junk] 1 0,.st [.junk,.junk] 1 0,.arr (.int .u8) 0,.arr (.int .u8) 0,.st [.slc 3 0 1,.slc 4 0 1] 1 0,.st [.arr (.int .u8)] 1 0,.st [.junk] 1 0,.st [.junk] 1 0,.st [.slc 3 0 1,.slc 4 0 1] 1 0]⟩
 to := fun v => ⟨v.1.2.2.2.1,v.1.2.2.2.2.1,v.2.2.2.2.1,v.2.2.2.2.2.1,v.2.2.2.2.2.2.1.1.1,v.2.2.2.2.2.2.1.1.2.1,v.2.2.2.2.2.2.1.1.2.2,v.2.2.2.2.2.2.1.2.1.1,v.2.2.2.2.2.2.1.2.1.2.1,v.2.2.2.2.2.2.1.2.1.2.2,v.2.2.2.2.2.2.2.1.1,v.2.2.2.2.2.2.2.2.2.2.1.1.1,v.2.2.2.2.2.2.2.2.2.2.1.1.2.1,v.2.2.2.2.2.2.2.2.2.2.1.1.2.2,v.2.2.2.2.2.2.2.2.2.2.1.2.1.1,v.2.2.2.2.2.2.2.2.2.2.1.2.1.2.1,v.2.2.2.2.2.2.2.2.2.2.1.2.1.2.2⟩
 fr := fun x => (((),((),((),(x.i,(x.v,((),((),((),((),((),())))))))))),(((),((),())),(((),((),())),(((),((),())),(x.xs,(x.ys,(((x.oi_lo,x.oi_len,x.oi_cap),((x.os_lo,x.os_len,x.os_cap),())),((x.l,()),(((),()),(((),()),(((x.bi_lo,x.bi_len,x.bi_cap),((x.bs_lo,x.bs_len,x.bs_cap),())),())))))))))))
structure bq0aX where
 xs : List (Int)
 ys : List (Int)
 oi_lo : Nat
 oi_len : Nat
 oi_cap : Nat
 os_lo : Nat
 os_len : Nat
 os_cap : Nat
 l : List (Int)
 bi_lo : Nat
 bi_len : Nat
 bi_cap : Nat
 bs_lo : Nat
 bs_len : Nat
 bs_cap : Nat
def bq0a : Pt bq0aX where
 own := []
 t := ⟨[(1000000,.c (.clo 1000000 [])),(1000001,.c (.ptr 9 0)),(2000004,.c (.ptr 2 0)),(2000007,.c (.ptr 5 0)),(2000008,.c (.ptr 6 0))],[.st [.junk,.junk] 1 0,.st [.junk,.junk] 1 0,.st [.junk,.junk] 1 0,.arr (.int .u8) 0,.arr (.int .u8) 0,.st [.slc 3 0 1,.slc 4 0 1] 1 0,.st [.arr (.int .u8)] 1 0,.st [.junk] 1 0,.st [.junk] 1 0,.st [.slc 3 0 1,.slc 4 0 1] 1 0]⟩
 to := fun v => ⟨v.2.2.2.2.1,v.2.2.2.2.2.1,v.2.2.2.2.2.2.1.1.1,v.2.2.2.2.2.2.1.1.2.1,v.2.2.2.2.2.2.1.1.2.2,v.2.2.2.2.2.2.1.2.1.1,v.2.2.2.2.2.2.1.2.1.2.1,v.2.2.2.2.2.2.1.2.1.2.2,v.2.2.2.2.2.2.2.1.1,v.2.2.2.2.2.2.2.2.2.2.1.1.1,v.2.2.2.2.2.2.2.2.2.2.1.1.2.1,v.2.2.2.2.2.2.2.2.2.2.1.1.2.2,v.2.2.2.2.2.2.2.2.2.2.1.2.1.1,v.2.2.2.2.2.2.2.2.2.2.1.2.1.2.1,v.2.2.2.2.2.2.2.2.2.2.1.2.1.2.2⟩
 fr := fun x => (((),((),((),((),((),()))))),(((),((),())),(((),((),())),(((),((),())),(x.xs,(x.ys,(((x.oi_lo,x.oi_len,x.oi_cap),((x.os_lo,x.os_len,x.os_cap),())),((x.l,()),(((),()),(((),()),(((x.bi_lo,x.bi_len,x.bi_cap),((x.bs_lo,x.bs_len,x.bs_cap),())),())))))))))))
noncomputable def sb0a (x : bp0aX) : Option bq0aX := bif decide (x.v < x.xs.length) then bif inR x.i x.l.length then bif decide (x.v < x.xs.length) then some { xs := x.xs.set x.v (if x.l[x.i.toNat]?.getD 0 < x.xs[x.v]?.getD 0 then x.l[x.i.toNat]?.getD 0 else x.xs[x.v]?.getD 0),ys := x.ys,oi_lo := x.oi_lo,oi_len := x.oi_len,oi_cap := x.oi_cap,os_lo := x.os_lo,os_len := x.os_len,os_cap := x.os_cap,l := x.l,bi_lo := x.bi_lo,bi_len := x.bi_len,bi_cap := x.bi_cap,bs_lo := x.bs_lo,bs_len := x.bs_len,bs_cap := x.bs_cap } else none else none
else none
theorem sb0a_eq (x : bp0aX) : roundRun EB0_0 42 R0.rA R0.rB (bp0a.R x) (bp0a.H x) (endK 0 bq0a) = sb0a x := by kernel_rfl
noncomputable def ub0a : LoopS := mkUnit 0 bp0a bq0a sb0a
theorem ta0a : topL R0.rA 0 = [] := by kernel_rfl
theorem tb0a : topL R0.rB R0.rA.nl = [] := by kernel_rfl
theorem ub0a_ok {y : YI} (hy : Rnd R0.rA R0.rB R0.rP 42 y) : BodyOkS Try.prog 42 0 y.assign y.body ub0a := mkBody_ok mixed (env_ok ty_ok cl_ok _) rfl ⟨by kernel_rfl,by kernel_rfl⟩ (fun _ => rfl) (fun _ => rfl) (fun _ => ta0a ▸ AllL.nil) (fun l => tb0a ▸ AllL.nil) sb0a_eq hy
structure bp0bX where
 i : Int
 v : Nat
 xs : List (Int)
 ys : List (Int)
 oi_lo : Nat
 oi_len : Nat
 oi_cap : Nat
 os_lo : Nat
 os_len : Nat
 os_cap : Nat
 l : List (Int)
 bi_lo : Nat
 bi_len : Nat
 bi_cap : Nat
 bs_lo : Nat
 bs_len : Nat
 bs_cap : Nat
def bp0b : Pt bp0bX where
 own := []
 t := ⟨[(4,.c (.ptr 2 0)),(7,.c (.ptr 5 0)),(8,.c (.ptr 6 0)),(29,.c (.it .i64)),(30,.c (.el 4 0 1 0)),(1000000,.c (.clo 1000000 [])),(1000001,.c (.ptr 9 0)),(2000004,.c (.ptr 2 0)),(2000007,.c (.ptr 5 0)),(2000008,.c (.ptr 6 0))],[.st [.junk,.junk] 1 0,.st [.junk,.junk] 1 0,.st [.junk,.junk] 1 0,.arr (.int .u8) 0,.arr (.int .u8) 0,.st [.slc 3 0 1,.slc 4 0 1] 1 0,.st [.arr (.int .u8)] 1 0,.st [.junk] 1 0,.st [.junk] 1 0,.st [.slc 3 0 1,.slc 4 0 1] 1 0]⟩
 to := fun v => ⟨v.1.2.2.2.1,v.1.2.2.2.2.1,v.2.2.2.2.1,v.2.2.2.2.2.1,v.2.2.2.2.2.2.1.1.1,v.2.2.2.2.2.2.1.1.2.1,v.2.2.2.2.2.2.1.1.2.2,v.2.2.2.2.2.2.1.2.1.1,v.2.2.2.2.2.2.1.2.1.2.1,v.2.2.2.2.2.2.1.2.1.2.2,v.2.2.2.2.2.2.2.1.1,v.2.2.2.2.2.2.2.2.2.2.1.1.1,v.2.2.2.2.2.2.2.2.2.2.1.1.2.1,v.2.2.2.2.2.2.2.2.2.2.1.1.2.2,v.2.2.2.2.2.2.2.2.2.2.1.2.1.1,v.2.2.2.2.2.2.2.2.2.2.1.2.1.2.1,v.2.2.2.2.2.2.2.2.2.2.1.2.1.2.2⟩
 fr := fun x => (((),((),((),(x.i,(x.v,((),((),((),((),((),())))))))))),(((),((),())),(((),((),())),(((),((),())),(x.xs,(x.ys,(((x.oi_lo,x.oi_len,x.oi_cap),((x.os_lo,x.os_len,x.os_cap),())),((x.l,()),(((),()),(((),()),(((x.bi_lo,x.bi_len,x.bi_cap),((x.bs_lo,x.bs_len,x.bs_cap),())),())))))))))))
structure bq0bX where
 xs : List (Int)
 ys : List (Int)
 oi_lo : Nat
 oi_len : Nat
 oi_cap : Nat
 os_lo : Nat
 os_len : Nat
 os_cap : Nat
 l : List (Int)
 bi_lo : Nat
 bi_len : Nat
 bi_cap : Nat
 bs_lo : Nat
 bs_len : Nat
 bs_cap : Nat
def bq0b : Pt bq0bX where
 own := []
 t := ⟨[(1000000,.c (.clo 1000000 [])),(1000001,.c (.ptr 9 0)),(2000004,.c (.ptr 2 0)),(2000007,.c (.ptr 5 0)),(2000008,.c (.ptr 6 0))],[.st [.junk,.junk] 1 0,.st [.junk,.junk] 1 0,.st [.junk,.junk] 1 0,.arr (.int .u8) 0,.arr (.int .u8) 0,.st [.slc 3 0 1,.slc 4 0 1] 1 0,.st [.arr (.int .u8)] 1 0,.st [.junk] 1 0,.st [.junk] 1 0,.st [.slc 3 0 1,.slc 4 0 1] 1 0]⟩
 to := fun v => ⟨v.2.2.2.2.1,v.2.2.2.2.2.1,v.2.2.2.2.2.2.1.1.1,v.2.2.2.2.2.2.1.1.2.1,v.2.2.2.2.2.2.1.1.2.2,v.2.2.2.2.2.2.1.2.1.1,v.2.2.2.2.2.2.1.2.1.2.1,v.2.2.2.2.2.2.1.2.1.2.2,v.2.2.2.2.2.2.2.1.1,v.2.2.2.2.2.2.2.2.2.2.1.1.1,v.2.2.2.2.2.2.2.2.2.2.1.1.2.1,v.2.2.2.2.2.2.2.2.2.2.1.1.2.2,v.2.2.2.2.2.2.2.2.2.2.1.2.1.1,v.2.2.2.2.2.2.2.2.2.2.1.2.1.2.1,v.2.2.2.2.2.2.2.2.2.2.1.2.1.2.2⟩
 fr := fun x => (((),((),((),((),((),()))))),(((),((),())),(((),((),())),(((),((),())),(x.xs,(x.ys,(((x.oi_lo,x.oi_len,x.oi_cap),((x.os_lo,x.os_len,x.os_cap),())),((x.l,()),(((),()),(((),()),(((x.bi_lo,x.bi_len,x.bi_cap),((x.bs_lo,x.bs_len,x.bs_cap),())),())))))))))))
noncomputable def sb0b (x : bp0bX) : Option bq0bX := bif decide (x.v < x.ys.length) then bif inR x.i x.l.length then bif decide (x.v < x.ys.length) then some { xs := x.xs,ys := x.ys.set x.v (if x.l[x.i.toNat]?.getD 0 < x.ys[x.v]?.getD 0 then x.l[x.i.toNat]?.getD 0 else x.ys[x.v]?.getD 0),oi_lo := x.oi_lo,oi_len := x.oi_len,oi_cap := x.oi_cap,os_lo := x.os_lo,os_len := x.os_len,os_cap := x.os_cap,l := x.l,bi_lo := x.bi_lo,bi_len := x.bi_len,bi_cap := x.bi_cap,bs_lo := x.bs_lo,bs_len := x.bs_len,bs_cap := x.bs_cap } else none else none
else none
theorem sb0b_eq (x : bp0bX) : roundRun EB0_0 42 R0.rA R0.rB (bp0b.R x) (bp0b.H x) (endK 0 bq0b) = sb0b x := by kernel_rfl
noncomputable def ub0b : LoopS := mkUnit 0 bp0b bq0b sb0b
theorem ta0b : topL R0.rA 0 = [] := by kernel_rfl
theorem tb0b : topL R0.rB R0.rA.nl = [] := by kernel_rfl
theorem ub0b_ok {y : YI} (hy : Rnd R0.rA R0.rB R0.rP 42 y) : BodyOkS Try.prog 42 0 y.assign y.body ub0b := mkBody_ok mixed (env_ok ty_ok cl_ok _) rfl ⟨by kernel_rfl,by kernel_rfl⟩ (fun _ => rfl) (fun _ => rfl) (fun _ => ta0b ▸ AllL.nil) (fun l => tb0b ▸ AllL.nil) sb0b_eq hy
noncomputable def ub0 : LoopS := .alt ub0a ub0b
theorem ub0_ok {y : YI} (hy : Rnd R0.rA R0.rB R0.rP 42 y) : BodyOkS Try.prog 42 0 y.assign y.body ub0 := ⟨ub0a_ok hy,ub0b_ok hy⟩
noncomputable def EI0_2 : Env := ⟨ty,cfOf cl,fun _ => none,some (R0.rP,ub0)⟩
theorem yi0_2 {y : YI} (hy : Rnd R0.rA R0.rB R0.rP 42 y) : YldOk Try.prog 0 EI0_2 (some y) := yld_ok rfl (by kernel_rfl) (by kernel_rfl) ub0_ok hy
structure i0_p1X where
 n2 : Int
 i2 : Int
 xs : List (Int)
 ys : List (Int)
 oi_lo : Nat
 oi_len : Nat
 oi_cap : Nat
 os_lo : Nat
 os_len : Nat
 os_cap : Nat
 l : List (Int)
 bi_lo : Nat
 bi_len : Nat
 bi_cap : Nat
 bs_lo : Nat
 bs_len : Nat
 bs_cap : Nat
def i0_p1 : Pt i0_p1X where
 own := []
 t := ⟨[(0,.c (.clo 1000000 [])),(1,.c (.ptr 9 0)),(22,.c (.it .i64)),(23,.c (.it .i64)),(2000004,.c (.ptr 2 0)),(2000007,.c (.ptr 5 0)),(2000008,.c (.ptr 6 0)),(3000000,.c (.fn 0))],[.st [.junk,.junk] 1 0,.st [.junk,.junk] 1 0,.st [.junk,.junk] 1 0,.arr (.int .u8) 0,.arr (.int .u8) 0,.st [.slc 3 0 1,.slc 4 0 1] 1 0,.st [.arr (.int .u8)] 1 0,.st [.junk] 1 0,.st [.junk] 1 0,.st [.slc 3 0 1,.slc 4 0 1] 1 0]⟩
 to := fun v => ⟨v.1.2.2.1,v.1.2.2.2.1,v.2.2.2.2.1,v.2.2.2.2.2.1,v.2.2.2.2.2.2.1.1.1,v.2.2.2.2.2.2.1.1.2.1,v.2.2.2.2.2.2.1.1.2.2,v.2.2.2.2.2.2.1.2.1.1,v.2.2.2.2.2.2.1.2.1.2.1,v.2.2.2.2.2.2.1.2.1.2.2,v.2.2.2.2.2.2.2.1.1,v.2.2.2.2.2.2.2.2.2.2.1.1.1,v.2.2.2.2.2.2.2.2.2.2.1.1.2.1,v.2.2.2.2.2.2.2.2.2.2.1.1.2.2,v.2.2.2.2.2.2.2.2.2.2.1.2.1.1,v.2.2.2.2.2.2.2.2.2.2.1.2.1.2.1,v.2.2.2.2.2.2.2.2.2.2.1.2.1.2.2⟩
 fr := fun x => (((),((),(x.n2,(x.i2,((),((),((),((),())))))))),(((),((),())),(((),((),())),(((),((),())),(x.xs,(x.ys,(((x.oi_lo,x.oi_len,x.oi_cap),((x.os_lo,x.os_len,x.os_cap),())),((x.l,()),(((),()),(((),()),(((x.bi_lo,x.bi_len,x.bi_cap),((x.bs_lo,x.bs_len,x.bs_cap),())),())))))))))))
structure i0_q1X where
 xs : List (Int)
 ys : List (Int)
 oi_lo : Nat
 oi_len : Nat
 oi_cap : Nat
 os_lo : Nat
 os_len : Nat
 os_cap : Nat
 l : List (Int)
 bi_lo : Nat
 bi_len : Nat
 bi_cap : Nat
 bs_lo : Nat
 bs_len : Nat
 bs_cap : Nat
def i0_q1 : Pt i0_q1X where
 own := []
 t := ⟨[(2000004,.c (.ptr 2 0)),(2000007,.c (.ptr 5 0)),(2000008,.c (.ptr 6 0)),(3000000,.c (.fn 0))],[.st [.junk,.junk] 1 0,.st [.junk,.junk] 1 0,.st [.junk,.junk] 1 0,.arr (.int .u8) 0,.arr (.int .u8) 0,.st [.slc 3 0 1,.slc 4 0 1] 1 0,.st [.arr (.int .u8)] 1 0,.st [.junk] 1 0,.st [.junk] 1 0,.st [.slc 3 0 1,.slc 4 0 1] 1 0]⟩
 to := fun v => ⟨v.2.2.2.2.1,v.2.2.2.2.2.1,v.2.2.2.2.2.2.1.1.1,v.2.2.2.2.2.2.1.1.2.1,v.2.2.2.2.2.2.1.1.2.2,v.2.2.2.2.2.2.1.2.1.1,v.2.2.2.2.2.2.1.2.1.2.1,v.2.2.2.2.2.2.1.2.1.2.2,v.2.2.2.2.2.2.2.1.1,v.2.2.2.2.2.2.2.2.2.2.1.1.1,v.2.2.2.2.2.2.2.2.2.2.1.1.2.1,v.2.2.2.2.2.2.2.2.2.2.1.1.2.2,v.2.2.2.2.2.2.2.2.2.2.1.2.1.1,v.2.2.2.2.2.2.2.2.2.2.1.2.1.2.1,v.2.2.2.2.2.2.2.2.2.2.1.2.1.2.2⟩
 fr := fun x => (((),((),((),((),())))),(((),((),())),(((),((),())),(((),((),())),(x.xs,(x.ys,(((x.oi_lo,x.oi_len,x.oi_cap),((x.os_lo,x.os_len,x.os_cap),())),((x.l,()),(((),()),(((),()),(((x.bi_lo,x.bi_len,x.bi_cap),((x.bs_lo,x.bs_len,x.bs_cap),())),())))))))))))
noncomputable def i0_s1 (x : i0_p1X) : Option (i0_p1X ⊕ i0_q1X) := bif decide (x.i2 < x.n2) then bif inR x.i2 x.bs_len then bindO (sb0b { i := IntKind.i64.wrap ((↑x.bi_len : Int) + x.i2),v := x.bs_lo + x.i2.toNat,xs := x.xs,ys := x.ys,oi_lo := x.oi_lo,oi_len := x.oi_len,oi_cap := x.oi_cap,os_lo := x.os_lo,os_len := x.os_len,os_cap := x.os_cap,l := x.l,bi_lo := x.bi_lo,bi_len := x.bi_len,bi_cap := x.bi_cap,bs_lo := x.bs_lo,bs_len := x.bs_len,bs_cap := x.bs_cap }) fun y => some (Sum.inl { n2 := x.n2,i2 := IntKind.i64.wrap (x.i2 + 1),xs := y.xs,ys := y.ys,oi_lo := y.oi_lo,oi_len := y.oi_len,oi_cap := y.oi_cap,os_lo := y.os_lo,os_len := y.os_len,os_cap := y.os_cap,l := y.l,bi_lo := y.bi_lo,bi_len := y.bi_len,bi_cap := y.bi_cap,bs_lo := y.bs_lo,bs_len := y.bs_len,bs_cap := y.bs_cap }) else none
else
 some
  (Sum.inr
   {xs := x.xs,ys := x.ys,oi_lo := x.oi_lo,oi_len := x.oi_len,oi_cap := x.oi_cap,os_lo := x.os_lo,os_len := x.os_len,os_cap := x.os_cap,l := x.l,bi_lo := x.bi_lo,
    bi_len := x.bi_len,bi_cap := x.bi_cap,bs_lo := x.bs_lo,bs_len := x.bs_len,bs_cap := x.bs_cap })
theorem i0_s1_eq (x : i0_p1X) : exec EI0_2 39 (C50.bodyAt 1) 2 (i0_p1.R x) (i0_p1.H x) (roundK 0 i0_p1 (.exit 2) i0_q1) = i0_s1 x := by kernel_rfl
noncomputable def i0_l1 : LoopS := mkLoop 0 i0_p1 (.exit 2) i0_q1 i0_s1
theorem ti0_l1 : topL (C50.bodyAt 1) 2 = [] := by kernel_rfl
theorem i0_l1_ok {y : YI} (hy : Rnd R0.rA R0.rB R0.rP 42 y) : LoopOkS Try.prog 39 none 0 (C50.bodyAt 1) i0_l1 (some y) := mkLoop_ok mixed (env_ok ty_ok cl_ok _) (by trivial) (fun _ => rfl) (fun _ => rfl) (ti0_l1 ▸ AllL.nil) i0_s1_eq (hyk := yi0_2 hy)
noncomputable def EI0_1 : Env := ⟨ty,cfOf cl,lpOf [(1,i0_l1)],some (R0.rP,ub0)⟩
theorem yi0_1 {y : YI} (hy : Rnd R0.rA R0.rB R0.rP 42 y) : YldOk Try.prog 0 EI0_1 (some y) := yld_ok rfl (by kernel_rfl) (by kernel_rfl) ub0_ok hy
structure i0_p0X where
 n : Int
 i : Int
 xs : List (Int)
 ys : List (Int)
 oi_lo : Nat
 oi_len : Nat
 oi_cap : Nat
 os_lo : Nat
 os_len : Nat
 os_cap : Nat
 l : List (Int)
 bi_lo : Nat
 bi_len : Nat
 bi_cap : Nat
 bs_lo : Nat
 bs_len : Nat
 bs_cap : Nat
def i0_p0 : Pt i0_p0X where
 own := []
 t := ⟨[(0,.c (.clo 1000000 [])),(1,.c (.ptr 9 0)),(7,.c (.it .i64)),(8,.c (.it .i64)),(2000004,.c (.ptr 2 0)),(2000007,.c (.ptr 5 0)),(2000008,.c (.ptr 6 0)),(3000000,.c (.fn 0))],[.st [.junk,.junk] 1 0,.st [.junk,.junk] 1 0,.st [.junk,.junk] 1 0,.arr (.int .u8) 0,.arr (.int .u8) 0,.st [.slc 3 0 1,.slc 4 0 1] 1 0,.st [.arr (.int .u8)] 1 0,.st [.junk] 1 0,.st [.junk] 1 0,.st [.slc 3 0 1,.slc 4 0 1] 1 0]⟩
 to := fun v => ⟨v.1.2.2.1,v.1.2.2.2.1,v.2.2.2.2.1,v.2.2.2.2.2.1,v.2.2.2.2.2.2.1.1.1,v.2.2.2.2.2.2.1.1.2.1,v.2.2.2.2.2.2.1.1.2.2,v.2.2.2.2.2.2.1.2.1.1,v.2.2.2.2.2.2.1.2.1.2.1,v.2.2.2.2.2.2.1.2.1.2.2,v.2.2.2.2.2.2.2.1.1,v.2.2.2.2.2.2.2.2.2.2.1.1.1,v.2.2.2.2.2.2.2.2.2.2.1.1.2.1,v.2.2.2.2.2.2.2.2.2.2.1.1.2.2,v.2.2.2.2.2.2.2.2.2.2.1.2.1.1,v.2.2.2.2.2.2.2.2.2.2.1.2.1.2.1,v.2.2.2.2.2.2.2.2.2.2.1.2.1.2.2⟩
 fr := fun x => (((),((),(x.n,(x.i,((),((),((),((),())))))))),(((),((),())),(((),((),())),(((),((),())),(x.xs,(x.ys,(((x.oi_lo,x.oi_len,x.oi_cap),((x.os_lo,x.os_len,x.os_cap),())),((x.l,()),(((),()),(((),()),(((x.bi_lo,x.bi_len,x.bi_cap),((x.bs_lo,x.bs_len,x.bs_cap),())),())))))))))))
structure i0_q0X where
 xs : List (Int)
 ys : List (Int)
 oi_lo : Nat
 oi_len : Nat
 oi_cap : Nat
 os_lo : Nat
 os_len : Nat
 os_cap : Nat
 l : List (Int)
 bi_lo : Nat
 bi_len : Nat
 bi_cap : Nat
 bs_lo : Nat
 bs_len : Nat
 bs_cap : Nat
def i0_q0 : Pt i0_q0X where
 own := []
 t := ⟨[(0,.c (.clo 1000000 [])),(1,.c (.ptr 9 0)),(2000004,.c (.ptr 2 0)),(2000007,.c (.ptr 5 0)),(2000008,.c (.ptr 6 0)),(3000000,.c (.fn 0))],[.st [.junk,.junk] 1 0,.st [.junk,.junk] 1 0,.st [.junk,.junk] 1 0,.arr (.int .u8) 0,.arr (.int .u8) 0,.st [.slc 3 0 1,.slc 4 0 1] 1 0,.st [.arr (.int .u8)] 1 0,.st [.junk] 1 0,.st [.junk] 1 0,.st [.slc 3 0 1,.slc 4 0 1] 1 0]⟩
 to := fun v => ⟨v.2.2.2.2.1,v.2.2.2.2.2.1,v.2.2.2.2.2.2.1.1.1,v.2.2.2.2.2.2.1.1.2.1,v.2.2.2.2.2.2.1.1.2.2,v.2.2.2.2.2.2.1.2.1.1,v.2.2.2.2.2.2.1.2.1.2.1,v.2.2.2.2.2.2.1.2.1.2.2,v.2.2.2.2.2.2.2.1.1,v.2.2.2.2.2.2.2.2.2.2.1.1.1,v.2.2.2.2.2.2.2.2.2.2.1.1.2.1,v.2.2.2.2.2.2.2.2.2.2.1.1.2.2,v.2.2.2.2.2.2.2.2.2.2.1.2.1.1,v.2.2.2.2.2.2.2.2.2.2.1.2.1.2.1,v.2.2.2.2.2.2.2.2.2.2.1.2.1.2.2⟩
 fr := fun x => (((),((),((),((),((),((),())))))),(((),((),())),(((),((),())),(((),((),())),(x.xs,(x.ys,(((x.oi_lo,x.oi_len,x.oi_cap),((x.os_lo,x.os_len,x.os_cap),())),((x.l,()),(((),()),(((),()),(((x.bi_lo,x.bi_len,x.bi_cap),((x.bs_lo,x.bs_len,x.bs_cap),())),())))))))))))
noncomputable def i0_s0 (x : i0_p0X) : Option (i0_p0X ⊕ i0_q0X) := bif decide (x.i < x.n) then bif inR x.i x.bi_len then bindO (sb0a { i := x.i,v := x.bi_lo + x.i.toNat,xs := x.xs,ys := x.ys,oi_lo := x.oi_lo,oi_len := x.oi_len,oi_cap := x.oi_cap,os_lo := x.os_lo,os_len := x.os_len,os_cap := x.os_cap,l := x.l,bi_lo := x.bi_lo,bi_len := x.bi_len,bi_cap := x.bi_cap,bs_lo := x.bs_lo,bs_len := x.bs_len,bs_cap := x.bs_cap }) fun y => some (Sum.inl { n := x.n,i := IntKind.i64.wrap (x.i + 1),xs := y.xs,ys := y.ys,oi_lo := y.oi_lo,oi_len := y.oi_len,oi_cap := y.oi_cap,os_lo := y.os_lo,os_len := y.os_len,os_cap := y.os_cap,l := y.l,bi_lo := y.bi_lo,bi_len := y.bi_len,bi_cap := y.bi_cap,bs_lo := y.bs_lo,bs_len := y.bs_len,bs_cap := y.bs_cap }) else none
else
 some
  (Sum.inr
   {xs := x.xs,ys := x.ys,oi_lo := x.oi_lo,oi_len := x.oi_len,oi_cap := x.oi_cap,os_lo := x.os_lo,os_len := x.os_len,os_cap := x.os_cap,l := x.l,bi_lo := x.bi_lo,
    bi_len := x.bi_len,bi_cap := x.bi_cap,bs_lo := x.bs_lo,bs_len := x.bs_len,bs_cap := x.bs_cap })
theorem i0_s0_eq (x : i0_p0X) : exec EI0_1 39 (C50.bodyAt 0) 1 (i0_p0.R x) (i0_p0.H x) (roundK 0 i0_p0 (.exit 0) i0_q0) = i0_s0 x := by kernel_rfl
noncomputable def i0_l0 : LoopS := mkLoop 0 i0_p0 (.exit 0) i0_q0 i0_s0
theorem ti0_l0 : topL (C50.bodyAt 0) 1 = [] := by kernel_rfl
theorem i0_l0_ok {y : YI} (hy : Rnd R0.rA R0.rB R0.rP 42 y) : LoopOkS Try.prog 39 none 0 (C50.bodyAt 0) i0_l0 (some y) := mkLoop_ok mixed (env_ok ty_ok cl_ok _) (by trivial) (fun _ => rfl) (fun _ => rfl) (ti0_l0 ▸ AllL.nil) i0_s0_eq (hyk := yi0_1 hy)
noncomputable def EI0_0 : Env := ⟨ty,cfOf cl,lpOf [(0,i0_l0),(1,i0_l1)],some (R0.rP,ub0)⟩
theorem yi0_0 {y : YI} (hy : Rnd R0.rA R0.rB R0.rP 42 y) : YldOk Try.prog 0 EI0_0 (some y) := yld_ok rfl (by kernel_rfl) (by kernel_rfl) ub0_ok hy
structure p0X where
 xs : List (Int)
 ys : List (Int)
 oi_lo : Nat
 oi_len : Nat
 oi_cap : Nat
 os_lo : Nat
 os_len : Nat
 os_cap : Nat
 l : List (Int)
 bi_lo : Nat
 bi_len : Nat
 bi_cap : Nat
 bs_lo : Nat
 bs_len : Nat
 bs_cap : Nat
def p0 : Pt p0X where
 own := []
 t := ⟨[(4,.c (.ptr 2 0)),(7,.c (.ptr 5 0)),(8,.c (.ptr 6 0)),(28,.c (.clo 50 [⟨9,0,0⟩]))],[.st [.junk,.junk] 1 0,.st [.junk,.junk] 1 0,.st [.junk,.junk] 1 0,.arr (.int .u8) 0,.arr (.int .u8) 0,.st [.slc 3 0 1,.slc 4 0 1] 1 0,.st [.arr (.int .u8)] 1 0,.st [.junk] 1 0,.st [.junk] 1 0,.st [.slc 3 0 1,.slc 4 0 1] 1 0]⟩
 to := fun v => ⟨v.2.2.2.2.1,v.2.2.2.2.2.1,v.2.2.2.2.2.2.1.1.1,v.2.2.2.2.2.2.1.1.2.1,v.2.2.2.2.2.2.1.1.2.2,v.2.2.2.2.2.2.1.2.1.1,v.2.2.2.2.2.2.1.2.1.2.1,v.2.2.2.2.2.2.1.2.1.2.2,v.2.2.2.2.2.2.2.1.1,v.2.2.2.2.2.2.2.2.2.2.1.1.1,v.2.2.2.2.2.2.2.2.2.2.1.1.2.1,v.2.2.2.2.2.2.2.2.2.2.1.1.2.2,v.2.2.2.2.2.2.2.2.2.2.1.2.1.1,v.2.2.2.2.2.2.2.2.2.2.1.2.1.2.1,v.2.2.2.2.2.2.2.2.2.2.1.2.1.2.2⟩
 fr := fun x => (((),((),((),((),())))),(((),((),())),(((),((),())),(((),((),())),(x.xs,(x.ys,(((x.oi_lo,x.oi_len,x.oi_cap),((x.os_lo,x.os_len,x.os_cap),())),((x.l,()),(((),()),(((),()),(((x.bi_lo,x.bi_len,x.bi_cap),((x.bs_lo,x.bs_len,x.bs_cap),())),())))))))))))
structure q0X where
 xs : List (Int)
 ys : List (Int)
 oi_lo : Nat
 oi_len : Nat
 oi_cap : Nat
 os_lo : Nat
 os_len : Nat
 os_cap : Nat
 l : List (Int)
 bi_lo : Nat
 bi_len : Nat
 bi_cap : Nat
 bs_lo : Nat
 bs_len : Nat
 bs_cap : Nat
def q0 : Pt q0X where
 own := []
 t := ⟨[(4,.c (.ptr 2 0)),(7,.c (.ptr 5 0)),(8,.c (.ptr 6 0))],[.st [.junk,.junk] 1 0,.st [.junk,.junk] 1 0,.st [.junk,.junk] 1 0,.arr (.int .u8) 0,.arr (.int .u8) 0,.st [.slc 3 0 1,.slc 4 0 1] 1 0,.st [.arr (.int .u8)] 1 0,.st [.junk] 1 0,.st [.junk] 1 0,.st [.slc 3 0 1,.slc 4 0 1] 1 0]⟩
 to := fun v => ⟨v.2.2.2.2.1,v.2.2.2.2.2.1,v.2.2.2.2.2.2.1.1.1,v.2.2.2.2.2.2.1.1.2.1,v.2.2.2.2.2.2.1.1.2.2,v.2.2.2.2.2.2.1.2.1.1,v.2.2.2.2.2.2.1.2.1.2.1,v.2.2.2.2.2.2.1.2.1.2.2,v.2.2.2.2.2.2.2.1.1,v.2.2.2.2.2.2.2.2.2.2.1.1.1,v.2.2.2.2.2.2.2.2.2.2.1.1.2.1,v.2.2.2.2.2.2.2.2.2.2.1.1.2.2,v.2.2.2.2.2.2.2.2.2.2.1.2.1.1,v.2.2.2.2.2.2.2.2.2.2.1.2.1.2.1,v.2.2.2.2.2.2.2.2.2.2.1.2.1.2.2⟩
 fr := fun x => (((),((),((),()))),(((),((),())),(((),((),())),(((),((),())),(x.xs,(x.ys,(((x.oi_lo,x.oi_len,x.oi_cap),((x.os_lo,x.os_len,x.os_cap),())),((x.l,()),(((),()),(((),()),(((x.bi_lo,x.bi_len,x.bi_cap),((x.bs_lo,x.bs_len,x.bs_cap),())),())))))))))))
noncomputable def s0 (x : p0X) : Option q0X := bindO (iter i0_s0 { n := (↑x.bi_len : Int),i := 0,xs := x.xs,ys := x.ys,oi_lo := x.oi_lo,oi_len := x.oi_len,oi_cap := x.oi_cap,os_lo := x.os_lo,os_len := x.os_len,os_cap := x.os_cap,l := x.l,bi_lo := x.bi_lo,bi_len := x.bi_len,bi_cap := x.bi_cap,bs_lo := x.bs_lo,bs_len := x.bs_len,bs_cap := x.bs_cap }) fun y => bindO (iter i0_s1 { n2 := (↑y.bs_len : Int),i2 := 0,xs := y.xs,ys := y.ys,oi_lo := y.oi_lo,oi_len := y.oi_len,oi_cap := y.oi_cap,os_lo := y.os_lo,os_len := y.os_len,os_cap := y.os_cap,l := y.l,bi_lo := y.bi_lo,bi_len := y.bi_len,bi_cap := y.bi_cap,bs_lo := y.bs_lo,bs_len := y.bs_len,bs_cap := y.bs_cap }) fun y => some { xs := y.xs,ys := y.ys,oi_lo := y.oi_lo,oi_len := y.oi_len,oi_cap := y.oi_cap,os_lo := y.os_lo,os_len := y.os_len,os_cap := y.os_cap,l := y.l,bi_lo := y.bi_lo,bi_len := y.bi_len,bi_cap := y.bi_cap,bs_lo := y.bs_lo,bs_len := y.bs_len,bs_cap := y.bs_cap }
theorem s0_eq (x : p0X) : rngRun EI0_0 39 C50 50 R0.rF (p0.R x) (p0.H x) (leaveK (endK 0 q0)) = s0 x := by kernel_rfl
noncomputable def l0 : LoopS := mkUnit 0 p0 q0 s0
theorem ti0 : topL C50 0 = [(0,C50.bodyAt 0),(1,C50.bodyAt 1)] := by kernel_rfl
theorem l0_ok : RngOkS Try.prog 42 0 R0.rF R0.rP R0.rA R0.rB l0 := mkRng_ok mixed (env_ok ty_ok cl_ok _) (fun hy => yi0_0 hy) s50 (by kernel_rfl) (fun hy => ti0 ▸ (AllL.cons rfl (i0_l0_ok hy) (AllL.cons rfl (i0_l1_ok hy) AllL.nil))) (fun _ => rfl) (fun _ => rfl) s0_eq
noncomputable def E0 : Env := ⟨ty,cfOf cl,lpOf [(0,l0)],none⟩
theorem ur : rngs C13 0 = [(0,R0)] := by kernel_rfl
noncomputable def m (x : gX) : Option fY := bindO (M33.m { ai := x.ai,as_ := x.as_,bi := x.bi,bs := x.bs }) fun y => bif y != 0 then some ([],[],y) else bindO (M16.m { ai := x.ai,as_ := x.as_,bi := x.bi,bs := x.bs }) fun y => bif !y then some ([],[],9) else bindO (M34.m { i := x.ai,s := x.as_ }) fun y => bindO (M35.m { i := x.bi,s := x.bs }) fun y_1 => bindO (M36o.m { i_lo := y.fst,i_len := y.snd.fst,i_cap := y.snd.snd.fst,s_lo := y.snd.snd.snd.fst,s_len := y.snd.snd.snd.snd.fst,s_cap := y.snd.snd.snd.snd.snd.fst,xs := y.snd.snd.snd.snd.snd.snd.fst,ys := y.snd.snd.snd.snd.snd.snd.snd }) fun y_2 => bindO (s0 { xs := y_2.fst,ys := y_2.snd.fst,oi_lo := y.fst,oi_len := y.snd.fst,oi_cap := y.snd.snd.fst,os_lo := y.snd.snd.snd.fst,os_len := y.snd.snd.snd.snd.fst,os_cap := y.snd.snd.snd.snd.snd.fst,l := y_1,bi_lo := y_2.snd.snd.fst,bi_len := y_2.snd.snd.snd.fst,bi_cap := y_2.snd.snd.snd.snd.fst,bs_lo := y_2.snd.snd.snd.snd.snd.fst,bs_len := y_2.snd.snd.snd.snd.snd.snd.fst,bs_cap := y_2.snd.snd.snd.snd.snd.snd.snd }) fun y => bif leB (y.oi_lo + y.oi_len) y.xs.length && (leB (y.os_lo + y.os_len) y.ys.length && true) && true && true && true then some (List.take y.oi_len (List.drop y.oi_lo y.xs),List.take y.os_len (List.drop y.os_lo y.ys),0) else none
theorem m_eq (x : gX) : exec E0 42 C13 0 (initS 0 (g.A x)) (g.H x) (finish 0 ty [.cell 4 29,.tmp 5] f) = m x := by kernel_rfl
theorem tl : topL C13 0 = [] := by kernel_rfl
theorem known : Known Try.prog 13 g f m :=
 mk_known mixed (env_ok ty_ok cl_ok _) s13 rfl rfl tl AllL.nil (fun _ _ => ⟨rfl,rfl⟩) (fun _ _ => ⟨rfl,rfl⟩) m_eq (hg := RgOk.of rfl (ur ▸ (AllR.cons rfl rfl l0_ok AllR.nil)))
noncomputable def con : Con := conT g f m default
theorem con_ok : ConOk Try.prog 13 con := conT_ok known (fun _ => rfl) rfl
end M13
end Go.Proofs.Ytnmlmdlhhphcoaa
namespace Go.Proofs.Ytnmlmdlhhphcoaa
open Go.Abs
set_option maxRecDepth 100000
namespace M19
structure gX where
 i : List (Int)
 s : List (Int)
 w : Int
def g : Sg gX where
 vs := [.agg [.arr (.int .u8),.arr (.int .u8)],.c (.it .u8)]
 h := []
 to := fun a b => ⟨a.1.1,a.1.2.1,a.2.1⟩
 fa := fun x => ((x.i,(x.s,())),(x.w,()))
 fh := fun x => ()
abbrev fY := List (Int) × List (Int) × Int
def f : Ft fY where
 ord := none
 sh := .tup [.inr [.arr (.int .u8),.arr (.int .u8)],.inl (.it .i64)]
 h := []
 to := fun a b => (a.1.1,a.1.2.1,a.2.1)
 fv := fun y => ((y.1,(y.2.1,())),(y.2.2,()))
 fh := fun y => ()
noncomputable def cl : List (FuncId × Con) := [(29,M29.con),(35,M35.con),(40,M40.con),(34,M34.con),(36,M36o.con)]
theorem cl_ok : allCon Try.prog cl := ⟨M29.con_ok,M35.con_ok,M40.con_ok,M34.con_ok,M36o.con_ok,trivial⟩
def R0 : CC := C19.rngAt 0
noncomputable def EB0_0 : Env := ⟨ty,cfOf cl,fun _ => none,none⟩
structure bp0aX where
 v : Nat
 w : Int
 last : Int
 xs : List (Int)
 ys : List (Int)
 oi_lo : Nat
 oi_len : Nat
 oi_cap : Nat
 os_lo : Nat
 os_len : Nat
 os_cap : Nat
 bi_lo : Nat
 bi_len : Nat
 bi_cap : Nat
 bs_lo : Nat
 bs_len : Nat
 bs_cap : Nat
def bp0a : Pt bp0aX where
 own := []
 t := ⟨[(3,.c (.ptr 1 0)),(4,.c (.ptr 2 0)),(7,.c (.ptr 3 0)),(9,.c (.ptr 6 0)),(41,.c (.el 4 0 1 0)),(1000000,.c (.clo 1000000 [])),(1000001,.c (.ptr 7 0)),(2000003,.c (.ptr 1 0)),(2000004,.c (.ptr 2 0)),(2000007,.c (.ptr 3 0)),(2000009,.c (.ptr 6 0))],[.st [.junk,.junk] 1 0,.st [.it .u8] 1 0,.st [.junk,.junk] 1 0,.st [.it .u8] 1 0,.arr (.int .u8) 0,.arr (.int .u8) 0,.st [.slc 4 0 1,.slc 5 0 1] 1 0,.st [.slc 4 0 1,.slc 5 0 1] 1 0]⟩
 to := fun v => ⟨v.1.2.2.2.2.1,v.2.2.1.1,v.2.2.2.2.1.1,v.2.2.2.2.2.1,v.2.2.2.2.2.2.1,v.2.2.2.2.2.2.2.1.1.1,v.2.2.2.2.2.2.2.1.1.2.1,v.2.2.2.2.2.2.2.1.1.2.2,v.2.2.2.2.2.2.2.1.2.1.1,v.2.2.2.2.2.2.2.1.2.1.2.1,v.2.2.2.2.2.2.2.1.2.1.2.2,v.2.2.2.2.2.2.2.2.1.1.1,v.2.2.2.2.2.2.2.2.1.1.2.1,v.2.2.2.2.2.2.2.2.1.1.2.2,v.2.2.2.2.2.2.2.2.1.2.1.1,v.2.2.2.2.2.2.2.2.1.2.1.2.1,v.2.2.2.2.2.2.2.2.1.2.1.2.2⟩
 fr := fun x => (((),((),((),((),(x.v,((),((),((),((),((),((),()))))))))))),(((),((),())),((x.w,()),(((),((),())),((x.last,()),(x.xs,(x.ys,(((x.oi_lo,x.oi_len,x.oi_cap),((x.os_lo,x.os_len,x.os_cap),())),(((x.bi_lo,x.bi_len,x.bi_cap),((x.bs_lo,x.bs_len,x.bs_cap),())),())))))))))
structure bq0aX where
 w : Int
 last : Int
 xs : List (Int)
 ys : List (Int)
 oi_lo : Nat
 oi_len : Nat
 oi_cap : Nat
 os_lo : Nat
 os_len : Nat
 os_cap : Nat
 bi_lo : Nat
 bi_len : Nat
 bi_cap : Nat
 bs_lo : Nat
 bs_len : Nat
 bs_cap : Nat
def bq0a : Pt bq0aX where
 own := []
 t := ⟨[(1000000,.c (.clo 1000000 [])),(1000001,.c (.ptr 7 0)),(2000003,.c (.ptr 1 0)),(2000004,.c (.ptr 2 0)),(2000007,.c (.ptr 3 0)),(2000009,.c (.ptr 6 0))],[.st [.junk,.junk] 1 0,.st [.it .u8] 1 0,.st [.junk,.junk] 1 0,.st [.it .u8] 1 0,.arr (.int .u8) 0,.arr (.int .u8) 0,.st [.slc 4 0 1,.slc 5 0 1] 1 0,.st [.slc 4 0 1,.slc 5 0 1] 1 0]⟩
 to := fun v => ⟨v.2.2.1.1,v.2.2.2.2.1.1,v.2.2.2.2.2.1,v.2.2.2.2.2.2.1,v.2.2.2.2.2.2.2.1.1.1,v.2.2.2.2.2.2.2.1.1.2.1,v.2.2.2.2.2.2.2.1.1.2.2,v.2.2.2.2.2.2.2.1.2.1.1,v.2.2.2.2.2.2.2.1.2.1.2.1,v.2.2.2.2.2.2.2.1.2.1.2.2,v.2.2.2.2.2.2.2.2.1.1.1,v.2.2.2.2.2.2.2.2.1.1.2.1,v.2.2.2.2.2.2.2.2.1.1.2.2,v.2.2.2.2.2.2.2.2.1.2.1.1,v.2.2.2.2.2.2.2.2.1.2.1.2.1,v.2.2.2.2.2.2.2.2.1.2.1.2.2⟩
 fr := fun x => (((),((),((),((),((),((),())))))),(((),((),())),((x.w,()),(((),((),())),((x.last,()),(x.xs,(x.ys,(((x.oi_lo,x.oi_len,x.oi_cap),((x.os_lo,x.os_len,x.os_cap),())),(((x.bi_lo,x.bi_len,x.bi_cap),((x.bs_lo,x.bs_len,x.bs_cap),())),())))))))))
noncomputable def sb0a (x : bp0aX) : Option bq0aX := bif decide (x.v < x.xs.length) then bif x.xs[x.v]?.getD 0 == 2 then bif decide (x.v < x.xs.length) then some { w := x.w,last := x.last,xs := x.xs.set x.v x.last,ys := x.ys,oi_lo := x.oi_lo,oi_len := x.oi_len,oi_cap := x.oi_cap,os_lo := x.os_lo,os_len := x.os_len,os_cap := x.os_cap,bi_lo := x.bi_lo,bi_len := x.bi_len,bi_cap := x.bi_cap,bs_lo := x.bs_lo,bs_len := x.bs_len,bs_cap := x.bs_cap } else none else bif x.w == 2 then bif decide (x.v < x.xs.length) then some { w := x.w,last := x.xs[x.v]?.getD 0,xs := x.xs,ys := x.ys,oi_lo := x.oi_lo,oi_len := x.oi_len,oi_cap := x.oi_cap,os_lo := x.os_lo,os_len := x.os_len,os_cap := x.os_cap,bi_lo := x.bi_lo,bi_len := x.bi_len,bi_cap := x.bi_cap,bs_lo := x.bs_lo,bs_len := x.bs_len,bs_cap := x.bs_cap } else none else some { w := x.w,last := x.last,xs := x.xs,ys := x.ys,oi_lo := x.oi_lo,oi_len := x.oi_len,oi_cap := x.oi_cap,os_lo := x.os_lo,os_len := x.os_len,os_cap := x.os_cap,bi_lo := x.bi_lo,bi_len := x.bi_len,bi_cap := x.bi_cap,bs_lo := x.bs_lo,bs_len := x.bs_len,bs_cap := x.bs_cap }
else none
theorem sb0a_eq (x : bp0aX) : roundRun EB0_0 57 R0.rA R0.rB (bp0a.R x) (bp0a.H x) (endK 0 bq0a) = sb0a x := by kernel_rfl
noncomputable def ub0a : LoopS := mkUnit 0 bp0a bq0a sb0a
theorem ta0a : topL R0.rA 0 = [] := by kernel_rfl
theorem tb0a : topL R0.rB R0.rA.nl = [] := by kernel_rfl
theorem ub0a_ok {y : YI} (hy : Rnd R0.rA R0.rB R0.rP 57 y) : BodyOkS Try.prog 57 0 y.assign y.body ub0a := mkBody_ok mixed (env_ok ty_ok cl_ok _) rfl ⟨by kernel_rfl,by kernel_rfl⟩ (fun _ => rfl) (fun _ => rfl) (fun _ => ta0a ▸ AllL.nil) (fun l => tb0a ▸ AllL.nil) sb0a_eq hy
structure bp0bX where
 v : Nat
 w : Int
 last : Int
 xs : List (Int)
 ys : List (Int)
 oi_lo : Nat
 oi_len : Nat
 oi_cap : Nat
 os_lo : Nat
 os_len : Nat
 os_cap : Nat
 bi_lo : Nat
 bi_len : Nat
 bi_cap : Nat
 bs_lo : Nat
 bs_len : Nat
 bs_cap : Nat
def bp0b : Pt bp0bX where
 own := []
 t := ⟨[(3,.c (.ptr 1 0)),(4,.c (.ptr 2 0)),(7,.c (.ptr 3 0)),(9,.c (.ptr 6 0)),(41,.c (.el 5 0 1 0)),(1000000,.c (.clo 1000000 [])),(1000001,.c (.ptr 7 0)),(2000003,.c (.ptr 1 0)),(2000004,.c (.ptr 2 0)),(2000007,.c (.ptr 3 0)),(2000009,.c (.ptr 6 0))],[.st [.junk,.junk] 1 0,.st [.it .u8] 1 0,.st [.junk,.junk] 1 0,.st [.it .u8] 1 0,.arr (.int .u8) 0,.arr (.int .u8) 0,.st [.slc 4 0 1,.slc 5 0 1] 1 0,.st [.slc 4 0 1,.slc 5 0 1] 1 0]⟩
 to := fun v => ⟨v.1.2.2.2.2.1,v.2.2.1.1,v.2.2.2.2.1.1,v.2.2.2.2.2.1,v.2.2.2.2.2.2.1,v.2.2.2.2.2.2.2.1.1.1,v.2.2.2.2.2.2.2.1.1.2.1,v.2.2.2.2.2.2.2.1.1.2.2,v.2.2.2.2.2.2.2.1.2.1.1,v.2.2.2.2.2.2.2.1.2.1.2.1,v.2.2.2.2.2.2.2.1.2.1.2.2,v.2.2.2.2.2.2.2.2.1.1.1,v.2.2.2.2.2.2.2.2.1.1.2.1,v.2.2.2.2.2.2.2.2.1.1.2.2,v.2.2.2.2.2.2.2.2.1.2.1.1,v.2.2.2.2.2.2.2.2.1.2.1.2.1,v.2.2.2.2.2.2.2.2.1.2.1.2.2⟩
 fr := fun x => (((),((),((),((),(x.v,((),((),((),((),((),((),()))))))))))),(((),((),())),((x.w,()),(((),((),())),((x.last,()),(x.xs,(x.ys,(((x.oi_lo,x.oi_len,x.oi_cap),((x.os_lo,x.os_len,x.os_cap),())),(((x.bi_lo,x.bi_len,x.bi_cap),((x.bs_lo,x.bs_len,x.bs_cap),())),())))))))))
structure bq0bX where
 w : Int
 last : Int
 xs : List (Int)
 ys : List (Int)
 oi_lo : Nat
 oi_len : Nat
 oi_cap : Nat
 os_lo : Nat
 os_len : Nat
 os_cap : Nat
 bi_lo : Nat
 bi_len : Nat
 bi_cap : Nat
 bs_lo : Nat
 bs_len : Nat
 bs_cap : Nat
def bq0b : Pt bq0bX where
 own := []
 t := ⟨[(1000000,.c (.clo 1000000 [])),(1000001,.c (.ptr 7 0)),(2000003,.c (.ptr 1 0)),(2000004,.c (.ptr 2 0)),(2000007,.c (.ptr 3 0)),(2000009,.c (.ptr 6 0))],[.st [.junk,.junk] 1 0,.st [.it .u8] 1 0,.st [.junk,.junk] 1 0,.st [.it .u8] 1 0,.arr (.int .u8) 0,.arr (.int .u8) 0,.st [.slc 4 0 1,.slc 5 0 1] 1 0,.st [.slc 4 0 1,.slc 5 0 1] 1 0]⟩
 to := fun v => ⟨v.2.2.1.1,v.2.2.2.2.1.1,v.2.2.2.2.2.1,v.2.2.2.2.2.2.1,v.2.2.2.2.2.2.2.1.1.1,v.2.2.2.2.2.2.2.1.1.2.1,v.2.2.2.2.2.2.2.1.1.2.2,v.2.2.2.2.2.2.2.1.2.1.1,v.2.2.2.2.2.2.2.1.2.1.2.1,v.2.2.2.2.2.2.2.1.2.1.2.2,v.2.2.2.2.2.2.2.2.1.1.1,v.2.2.2.2.2.2.2.2.1.1.2.1,v.2.2.2.2.2.2.2.2.1.1.2.2,v.2.2.2.2.2.2.2.2.1.2.1.1,v.2.2.2.2.2.2.2.2.1.2.1.2.1,v.2.2.2.2.2.2.2.2.1.2.1.2.2⟩
 fr := fun x => (((),((),((),((),((),((),())))))),(((),((),())),((x.w,()),(((),((),())),((x.last,()),(x.xs,(x.ys,(((x.oi_lo,x.oi_len,x.oi_cap),((x.os_lo,x.os_len,x.os_cap),())),(((x.bi_lo,x.bi_len,x.bi_cap),((x.bs_lo,x.bs_len,x.bs_cap),())),())))))))))
noncomputable def sb0b (x : bp0bX) : Option bq0bX := bif decide (x.v < x.ys.length) then bif x.ys[x.v]?.getD 0 == 2 then bif decide (x.v < x.ys.length) then some { w := x.w,last := x.last,xs := x.xs,ys := x.ys.set x.v x.last,oi_lo := x.oi_lo,oi_len := x.oi_len,oi_cap := x.oi_cap,os_lo := x.os_lo,os_len := x.os_len,os_cap := x.os_cap,bi_lo := x.bi_lo,bi_len := x.bi_len,bi_cap := x.bi_cap,bs_lo := x.bs_lo,bs_len := x.bs_len,bs_cap := x.bs_cap } else none else bif x.w == 2 then bif decide (x.v < x.ys.length) then some { w := x.w,last := x.ys[x.v]?.getD 0,xs := x.xs,ys := x.ys,oi_lo := x.oi_lo,oi_len := x.oi_len,oi_cap := x.oi_cap,os_lo := x.os_lo,os_len := x.os_len,os_cap := x.os_cap,bi_lo := x.bi_lo,bi_len := x.bi_len,bi_cap := x.bi_cap,bs_lo := x.bs_lo,bs_len := x.bs_len,bs_cap := x.bs_cap } else none else some { w := x.w,last := x.last,xs := x.xs,ys := x.ys,oi_lo := x.oi_lo,oi_len := x.oi_len,oi_cap := x.oi_cap,os_lo := x.os_lo,os_len := x.os_len,os_cap := x.os_cap,bi_lo := x.bi_lo,bi_len := x.bi_len,bi_cap := x.bi_cap,bs_lo := x.bs_lo,bs_len := x.bs_len,bs_cap := x.bs_cap }
else none
theorem sb0b_eq (x : bp0bX) : roundRun EB0_0 57 R0.rA R0.rB (bp0b.R x) (bp0b.H x) (endK 0 bq0b) = sb0b x := by kernel_rfl
noncomputable def ub0b : LoopS := mkUnit 0 bp0b bq0b sb0b
theorem ta0b : topL R0.rA 0 = [] := by kernel_rfl
theorem tb0b : topL R0.rB R0.rA.nl = [] := by kernel_rfl
theorem ub0b_ok {y : YI} (hy : Rnd R0.rA R0.rB R0.rP 57 y) : BodyOkS Try.prog 57 0 y.assign y.body ub0b := mkBody_ok mixed (env_ok ty_ok cl_ok _) rfl ⟨by kernel_rfl,by kernel_rfl⟩ (fun _ => rfl) (fun _ => rfl) (fun _ => ta0b ▸ AllL.nil) (fun l => tb0b ▸ AllL.nil) sb0b_eq hy
noncomputable def ub0 : LoopS := .alt ub0a ub0b
theorem ub0_ok {y : YI} (hy : Rnd R0.rA R0.rB R0.rP 57 y) : BodyOkS Try.prog 57 0 y.assign y.body ub0 := ⟨ub0a_ok hy,ub0b_ok hy⟩
noncomputable def EI0_2 : Env := ⟨ty,cfOf cl,fun _ => none,some (R0.rP,ub0)⟩
theorem yi0_2 {y : YI} (hy : Rnd R0.rA R0.rB R0.rP 57 y) : YldOk Try.prog 0 EI0_2 (some y) := yld_ok rfl (by kernel_rfl) (by kernel_rfl) ub0_ok hy
structure i0_p1X where
 n2 : Int
 i2 : Int
 w : Int
 last : Int
 xs : List (Int)
 ys : List (Int)
 oi_lo : Nat
 oi_len : Nat
 oi_cap : Nat
 os_lo : Nat
 os_len : Nat
 os_cap : Nat
 bi_lo : Nat
 bi_len : Nat
 bi_cap : Nat
 bs_lo : Nat
 bs_len : Nat
 bs_cap : Nat
def i0_p1 : Pt i0_p1X where
 own := []
 t := ⟨[(0,.c (.clo 1000000 [])),(1,.c (.ptr 7 0)),(22,.c (.it .i64)),(23,.c (.it .i64)),(2000003,.c (.ptr 1 0)),(2000004,.c (.ptr 2 0)),(2000007,.c (.ptr 3 0)),(2000009,.c (.ptr 6 0)),(3000000,.c (.fn 0))],[.st [.junk,.junk] 1 0,.st [.it .u8] 1 0,.st [.junk,.junk] 1 0,.st [.it .u8] 1 0,.arr (.int .u8) 0,.arr (.int .u8) 0,.st [.slc 4 0 1,.slc 5 0 1] 1 0,.st [.slc 4 0 1,.slc 5 0 1] 1 0]⟩
 to := fun v => ⟨v.1.2.2.1,v.1.2.2.2.1,v.2.2.1.1,v.2.2.2.2.1.1,v.2.2.2.2.2.1,v.2.2.2.2.2.2.1,v.2.2.2.2.2.2.2.1.1.1,v.2.2.2.2.2.2.2.1.1.2.1,v.2.2.2.2.2.2.2.1.1.2.2,v.2.2.2.2.2.2.2.1.2.1.1,v.2.2.2.2.2.2.2.1.2.1.2.1,v.2.2.2.2.2.2.2.1.2.1.2.2,v.2.2.2.2.2.2.2.2.1.1.1,v.2.2.2.2.2.2.2.2.1.1.2.1,v.2.2.2.2.2.2.2.2.1.1.2.2,v.2.2.2.2.2.2.2.2.1.2.1.1,v.2.2.2.2.2.2.2.2.1.2.1.2.1,v.2.2.2.2.2.2.2.2.1.2.1.2.2⟩
 fr := fun x => (((),((),(x.n2,(x.i2,((),((),((),((),((),()))))))))),(((),((),())),((x.w,()),(((),((),())),((x.last,()),(x.xs,(x.ys,(((x.oi_lo,x.oi_len,x.oi_cap),((x.os_lo,x.os_len,x.os_cap),())),(((x.bi_lo,x.bi_len,x.bi_cap),((x.bs_lo,x.bs_len,x.bs_cap),())),())))))))))
structure i0_q1X where
 w : Int
 last : Int
 xs : List (Int)
 ys : List (Int)
 oi_lo : Nat
 oi_len : Nat
 oi_cap : Nat
 os_lo : Nat
 os_len : Nat
 os_cap : Nat
 bi_lo : Nat
 bi_len : Nat
 bi_cap : Nat
 bs_lo : Nat
 bs_len : Nat
 bs_cap : Nat
def i0_q1 : Pt i0_q1X where
 own := []
 t := ⟨[(2000003,.c (.ptr 1 0)),(2000004,.c (.ptr 2 0)),(2000007,.c (.ptr 3 0)),(2000009,.c (.ptr 6 0)),(3000000,.c (.fn 0))],[.st [.junk,.junk] 1 0,.st [.it .u8] 1 0,.st [.junk,.junk] 1 0,.st [.it .u8] 1 0,.arr (.int .u8) 0,.arr (.int .u8) 0,.st [.slc 4 0 1,.slc 5 0 1] 1 0,.st [.slc 4 0 1,.slc 5 0 1] 1 0]⟩
 to := fun v => ⟨v.2.2.1.1,v.2.2.2.2.1.1,v.2.2.2.2.2.1,v.2.2.2.2.2.2.1,v.2.2.2.2.2.2.2.1.1.1,v.2.2.2.2.2.2.2.1.1.2.1,v.2.2.2.2.2.2.2.1.1.2.2,v.2.2.2.2.2.2.2.1.2.1.1,v.2.2.2.2.2.2.2.1.2.1.2.1,v.2.2.2.2.2.2.2.1.2.1.2.2,v.2.2.2.2.2.2.2.2.1.1.1,v.2.2.2.2.2.2.2.2.1.1.2.1,v.2.2.2.2.2.2.2.2.1.1.2.2,v.2.2.2.2.2.2.2.2.1.2.1.1,v.2.2.2.2.2.2.2.2.1.2.1.2.1,v.2.2.2.2.2.2.2.2.1.2.1.2.2⟩
 fr := fun x => (((),((),((),((),((),()))))),(((),((),())),((x.w,()),(((),((),())),((x.last,()),(x.xs,(x.ys,(((x.oi_lo,x.oi_len,x.oi_cap),((x.os_lo,x.os_len,x.os_cap),())),(((x.bi_lo,x.bi_len,x.bi_cap),((x.bs_lo,x.bs_len,x.bs_cap),())),())))))))))
noncomputable def i0_s1 (x : i0_p1X) : Option (i0_p1X ⊕ i0_q1X) := bif decide (x.i2 < x.n2) then bif inR x.i2 x.bs_len then bindO (sb0b { v := x.bs_lo + x.i2.toNat,w := x.w,last := x.last,xs := x.xs,ys := x.ys,oi_lo := x.oi_lo,oi_len := x.oi_len,oi_cap := x.oi_cap,os_lo := x.os_lo,os_len := x.os_len,os_cap := x.os_cap,bi_lo := x.bi_lo,bi_len := x.bi_len,bi_cap := x.bi_cap,bs_lo := x.bs_lo,bs_len := x.bs_len,bs_cap := x.bs_cap }) fun y => some (Sum.inl { n2 := x.n2,i2 := IntKind.i64.wrap (x.i2 + 1),w := y.w,last := y.last,xs := y.xs,ys := y.ys,oi_lo := y.oi_lo,oi_len := y.oi_len,oi_cap := y.oi_cap,os_lo := y.os_lo,os_len := y.os_len,os_cap := y.os_cap,bi_lo := y.bi_lo,bi_len := y.bi_len,bi_cap := y.bi_cap,bs_lo := y.bs_lo,bs_len := y.bs_len,bs_cap := y.bs_cap }) else none
else
 some
  (Sum.inr
   {w := x.w,last := x.last,xs := x.xs,ys := x.ys,oi_lo := x.oi_lo,oi_len := x.oi_len,oi_cap := x.oi_cap,os_lo := x.os_lo,os_len := x.os_len,os_cap := x.os_cap,
    bi_lo := x.bi_lo,bi_len := x.bi_len,bi_cap := x.bi_cap,bs_lo := x.bs_lo,bs_len := x.bs_len,bs_cap := x.bs_cap })
theorem i0_s1_eq (x : i0_p1X) : exec EI0_2 39 (C50.bodyAt 1) 2 (i0_p1.R x) (i0_p1.H x) (roundK 0 i0_p1 (.exit 2) i0_q1) = i0_s1 x := by kernel_rfl
noncomputable def i0_l1 : LoopS := mkLoop 0 i0_p1 (.exit 2) i0_q1 i0_s1
theorem ti0_l1 : topL (C50.bodyAt 1) 2 = [] := by kernel_rfl
theorem i0_l1_ok {y : YI} (hy : Rnd R0.rA R0.rB R0.rP 57 y) : LoopOkS Try.prog 39 none 0 (C50.bodyAt 1) i0_l1 (some y) := mkLoop_ok mixed (env_ok ty_ok cl_ok _) (by trivial) (fun _ => rfl) (fun _ => rfl) (ti0_l1 ▸ AllL.nil) i0_s1_eq (hyk := yi0_2 hy)
noncomputable def EI0_1 : Env := ⟨ty,cfOf cl,lpOf [(1,i0_l1)],some (R0.rP,ub0)⟩
theorem yi0_1 {y : YI} (hy : Rnd R0.rA R0.rB R0.rP 57 y) : YldOk Try.prog 0 EI0_1 (some y) := yld_ok rfl (by kernel_rfl) (by kernel_rfl) ub0_ok hy
structure i0_p0X where
 n : Int
 i : Int
 w : Int
 last : Int
 xs : List (Int)
 ys : List (Int)
 oi_lo : Nat
 oi_len : Nat
 oi_cap : Nat
 os_lo : Nat
 os_len : Nat
 os_cap : Nat
 bi_lo : Nat
 bi_len : Nat
 bi_cap : Nat
 bs_lo : Nat
 bs_len : Nat
 bs_cap : Nat
def i0_p0 : Pt i0_p0X where
 own := []
 t := ⟨[(0,.c (.clo 1000000 [])),(1,.c (.ptr 7 0)),(7,.c (.it .i64)),(8,.c (.it .i64)),(2000003,.c (.ptr 1 0)),(2000004,.c (.ptr 2 0)),(2000007,.c (.ptr 3 0)),(2000009,.c (.ptr 6 0)),(3000000,.c (.fn 0))],[.st [.junk,.junk] 1 0,.st [.it .u8] 1 0,.st [.junk,.junk] 1 0,.st [.it .u8] 1 0,.arr (.int .u8) 0,.arr (.int .u8) 0,.st [.slc 4 0 1,.slc 5 0 1] 1 0,.st [.slc 4 0 1,.slc 5 0 1] 1 0]⟩
 to := fun v => ⟨v.1.2.2.1,v.1.2.2.2.1,v.2.2.1.1,v.2.2.2.2.1.1,v.2.2.2.2.2.1,v.2.2.2.2.2.2.1,v.2.2.2.2.2.2.2.1.1.1,v.2.2.2.2.2.2.2.1.1.2.1,v.2.2.2.2.2.2.2.1.1.2.2,v.2.2.2.2.2.2.2.1.2.1.1,v.2.2.2.2.2.2.2.1.2.1.2.1,v.2.2.2.2.2.2.2.1.2.1.2.2,v.2.2.2.2.2.2.2.2.1.1.1,v.2.2.2.2.2.2.2.2.1.1.2.1,v.2.2.2.2.2.2.2.2.1.1.2.2,v.2.2.2.2.2.2.2.2.1.2.1.1,v.2.2.2.2.2.2.2.2.1.2.1.2.1,v.2.2.2.2.2.2.2.2.1.2.1.2.2⟩
 fr := fun x => (((),((),(x.n,(x.i,((),((),((),((),((),()))))))))),(((),((),())),((x.w,()),(((),((),())),((x.last,()),(x.xs,(x.ys,(((x.oi_lo,x.oi_len,x.oi_cap),((x.os_lo,x.os_len,x.os_cap),())),(((x.bi_lo,x.bi_len,x.bi_cap),((x.bs_lo,x.bs_len,x.bs_cap),())),())))))))))
structure i0_q0X where
 w : Int
 last : Int
 xs : List (Int)
 ys : List (Int)
 oi_lo : Nat
 oi_len : Nat
 oi_cap : Nat
 os_lo : Nat
 os_len : Nat
 os_cap : Nat
 bi_lo : Nat
 bi_len : Nat
 bi_cap : Nat
 bs_lo : Nat
 bs_len : Nat
 bs_cap : Nat
def i0_q0 : Pt i0_q0X where
 own := []
 t := ⟨[(0,.c (.clo 1000000 [])),(1,.c (.ptr 7 0)),(2000003,.c (.ptr 1 0)),(2000004,.c (.ptr 2 0)),(2000007,.c (.ptr 3 0)),(2000009,.c (.ptr 6 0)),(3000000,.c (.fn 0))],[.st [.junk,.junk] 1 0,.st [.it .u8] 1 0,.st [.junk,.junk] 1 0,.st [.it .u8] 1 0,.arr (.int .u8) 0,.arr (.int .u8) 0,.st [.slc 4 0 1,.slc 5 0 1] 1 0,.st [.slc 4 0 1,.slc 5 0 1] 1 0]⟩
 to := fun v => ⟨v.2.2.1.1,v.2.2.2.2.1.1,v.2.2.2.2.2.1,v.2.2.2.2.2.2.1,v.2.2.2.2.2.2.2.1.1.1,v.2.2.2.2.2.2.2.1.1.2.1,v.2.2.2.2.2.2.2.1.1.2.2,v.2.2.2.2.2.2.2.1.2.1.1,v.2.2.2.2.2.2.2.1.2.1.2.1,v.2.2.2.2.2.2.2.1.2.1.2.2,v.2.2.2.2.2.2.2.2.1.1.1,v.2.2.2.2.2.2.2.2.1.1.2.1,v.2.2.2.2.2.2.2.2.1.1.2.2,v.2.2.2.2.2.2.2.2.1.2.1.1,v.2.2.2.2.2.2.2.2.1.2.1.2.1,v.2.2.2.2.2.2.2.2.1.2.1.2.2⟩
 fr := fun x => (((),((),((),((),((),((),((),()))))))),(((),((),())),((x.w,()),(((),((),())),((x.last,()),(x.xs,(x.ys,(((x.oi_lo,x.oi_len,x.oi_cap),((x.os_lo,x.os_len,x.os_cap),())),(((x.bi_lo,x.bi_len,x.bi_cap),((x.bs_lo,x.bs_len,x.bs_cap),())),())))))))))
noncomputable def i0_s0 (x : i0_p0X) : Option (i0_p0X ⊕ i0_q0X) := bif decide (x.i < x.n) then bif inR x.i x.bi_len then bindO (sb0a { v := x.bi_lo + x.i.toNat,w := x.w,last := x.last,xs := x.xs,ys := x.ys,oi_lo := x.oi_lo,oi_len := x.oi_len,oi_cap := x.oi_cap,os_lo := x.os_lo,os_len := x.os_len,os_cap := x.os_cap,bi_lo := x.bi_lo,bi_len := x.bi_len,bi_cap := x.bi_cap,bs_lo := x.bs_lo,bs_len := x.bs_len,bs_cap := x.bs_cap }) fun y => some (Sum.inl { n := x.n,i := IntKind.i64.wrap (x.i + 1),w := y.w,last := y.last,xs := y.xs,ys := y.ys,oi_lo := y.oi_lo,oi_len := y.oi_len,oi_cap := y.oi_cap,os_lo := y.os_lo,os_len := y.os_len,os_cap := y.os_cap,bi_lo := y.bi_lo,bi_len := y.bi_len,bi_cap := y.bi_cap,bs_lo := y.bs_lo,bs_len := y.bs_len,bs_cap := y.bs_cap }) else none
else
 some
  (Sum.inr
   {w := x.w,last := x.last,xs := x.xs,ys := x.ys,oi_lo := x.oi_lo,oi_len := x.oi_len,oi_cap := x.oi_cap,os_lo := x.os_lo,os_len := x.os_len,os_cap := x.os_cap,
    bi_lo := x.bi_lo,bi_len := x.bi_len,bi_cap := x.bi_cap,bs_lo := x.bs_lo,bs_len := x.bs_len,bs_cap := x.bs_cap })
theorem i0_s0_eq (x : i0_p0X) : exec EI0_1 39 (C50.bodyAt 0) 1 (i0_p0.R x) (i0_p0.H x) (roundK 0 i0_p0 (.exit 0) i0_q0) = i0_s0 x := by kernel_rfl
noncomputable def i0_l0 : LoopS := mkLoop 0 i0_p0 (.exit 0) i0_q0 i0_s0
theorem ti0_l0 : topL (C50.bodyAt 0) 1 = [] := by kernel_rfl
theorem i0_l0_ok {y : YI} (hy : Rnd R0.rA R0.rB R0.rP 57 y) : LoopOkS Try.prog 39 none 0 (C50.bodyAt 0) i0_l0 (some y) := mkLoop_ok mixed (env_ok ty_ok cl_ok _) (by trivial) (fun _ => rfl) (fun _ => rfl) (ti0_l0 ▸ AllL.nil) i0_s0_eq (hyk := yi0_1 hy)
noncomputable def EI0_0 : Env := ⟨ty,cfOf cl,lpOf [(0,i0_l0),(1,i0_l1)],some (R0.rP,ub0)⟩
theorem yi0_0 {y : YI} (hy : Rnd R0.rA R0.rB R0.rP 57 y) : YldOk Try.prog 0 EI0_0 (some y) := yld_ok rfl (by kernel_rfl) (by kernel_rfl) ub0_ok hy
structure p0X where
 w : Int
 last : Int
 xs : List (Int)
 ys : List (Int)
 oi_lo : Nat
 oi_len : Nat
 oi_cap : Nat
 os_lo : Nat
 os_len : Nat
 os_cap : Nat
 bi_lo : Nat
 bi_len : Nat
 bi_cap : Nat
 bs_lo : Nat
 bs_len : Nat
 bs_cap : Nat
def p0 : Pt p0X where
 own := []
 t := ⟨[(3,.c (.ptr 1 0)),(4,.c (.ptr 2 0)),(7,.c (.ptr 3 0)),(9,.c (.ptr 6 0)),(39,.c (.clo 50 [⟨7,0,0⟩]))],[.st [.junk,.junk] 1 0,.st [.it .u8] 1 0,.st [.junk,.junk] 1 0,.st [.it .u8] 1 0,.arr (.int .u8) 0,.arr (.int .u8) 0,.st [.slc 4 0 1,.slc 5 0 1] 1 0,.st [.slc 4 0 1,.slc 5 0 1] 1 0]⟩
 to := fun v => ⟨v.2.2.1.1,v.2.2.2.2.1.1,v.2.2.2.2.2.1,v.2.2.2.2.2.2.1,v.2.2.2.2.2.2.2.1.1.1,v.2.2.2.2.2.2.2.1.1.2.1,v.2.2.2.2.2.2.2.1.1.2.2,v.2.2.2.2.2.2.2.1.2.1.1,v.2.2.2.2.2.2.2.1.2.1.2.1,v.2.2.2.2.2.2.2.1.2.1.2.2,v.2.2.2.2.2.2.2.2.1.1.1,v.2.2.2.2.2.2.2.2.1.1.2.1,v.2.2.2.2.2.2.2.2.1.1.2.2,v.2.2.2.2.2.2.2.2.1.2.1.1,v.2.2.2.2.2.2.2.2.1.2.1.2.1,v.2.2.2.2.2.2.2.2.1.2.1.2.2⟩
 fr := fun x => (((),((),((),((),((),()))))),(((),((),())),((x.w,()),(((),((),())),((x.last,()),(x.xs,(x.ys,(((x.oi_lo,x.oi_len,x.oi_cap),((x.os_lo,x.os_len,x.os_cap),())),(((x.bi_lo,x.bi_len,x.bi_cap),((x.bs_lo,x.bs_len,x.bs_cap),())),())))))))))
structure q0X where
 w : Int
 last : Int
 xs : List (Int)
 ys : List (Int)
 oi_lo : Nat
 oi_len : Nat
 oi_cap : Nat
 os_lo : Nat
 os_len : Nat
 os_cap : Nat
 bi_lo : Nat
 bi_len : Nat
 bi_cap : Nat
 bs_lo : Nat
 bs_len : Nat
 bs_cap : Nat
def q0 : Pt q0X where
 own := []
 t := ⟨[(3,.c (.ptr 1 0)),(4,.c (.ptr 2 0)),(7,.c (.ptr 3 0)),(9,.c (.ptr 6 0))],[.st [.junk,.junk] 1 0,.st [.it .u8] 1 0,.st [.junk,.junk] 1 0,.st [.it .u8] 1 0,.arr (.int .u8) 0,.arr (.int .u8) 0,.st [.slc 4 0 1,.slc 5 0 1] 1 0,.st [.slc 4 0 1,.slc 5 0 1] 1 0]⟩
 to := fun v => ⟨v.2.2.1.1,v.2.2.2.2.1.1,v.2.2.2.2.2.1,v.2.2.2.2.2.2.1,v.2.2.2.2.2.2.2.1.1.1,v.2.2.2.2.2.2.2.1.1.2.1,v.2.2.2.2.2.2.2.1.1.2.2,v.2.2.2.2.2.2.2.1.2.1.1,v.2.2.2.2.2.2.2.1.2.1.2.1,v.2.2.2.2.2.2.2.1.2.1.2.2,v.2.2.2.2.2.2.2.2.1.1.1,v.2.2.2.2.2.2.2.2.1.1.2.1,v.2.2.2.2.2.2.2.2.1.1.2.2,v.2.2.2.2.2.2.2.2.1.2.1.1,v.2.2.2.2.2.2.2.2.1.2.1.2.1,v.2.2.2.2.2.2.2.2.1.2.1.2.2⟩
 fr := fun x => (((),((),((),((),())))),(((),((),())),((x.w,()),(((),((),())),((x.last,()),(x.xs,(x.ys,(((x.oi_lo,x.oi_len,x.oi_cap),((x.os_lo,x.os_len,x.os_cap),())),(((x.bi_lo,x.bi_len,x.bi_cap),((x.bs_lo,x.bs_len,x.bs_cap),())),())))))))))
noncomputable def s0 (x : p0X) : Option q0X := bindO (iter i0_s0 { n := (↑x.bi_len : Int),i := 0,w := x.w,last := x.last,xs := x.xs,ys := x.ys,oi_lo := x.oi_lo,oi_len := x.oi_len,oi_cap := x.oi_cap,os_lo := x.os_lo,os_len := x.os_len,os_cap := x.os_cap,bi_lo := x.bi_lo,bi_len := x.bi_len,bi_cap := x.bi_cap,bs_lo := x.bs_lo,bs_len := x.bs_len,bs_cap := x.bs_cap }) fun y => bindO (iter i0_s1 { n2 := (↑y.bs_len : Int),i2 := 0,w := y.w,last := y.last,xs := y.xs,ys := y.ys,oi_lo := y.oi_lo,oi_len := y.oi_len,oi_cap := y.oi_cap,os_lo := y.os_lo,os_len := y.os_len,os_cap := y.os_cap,bi_lo := y.bi_lo,bi_len := y.bi_len,bi_cap := y.bi_cap,bs_lo := y.bs_lo,bs_len := y.bs_len,bs_cap := y.bs_cap }) fun y => some { w := y.w,last := y.last,xs := y.xs,ys := y.ys,oi_lo := y.oi_lo,oi_len := y.oi_len,oi_cap := y.oi_cap,os_lo := y.os_lo,os_len := y.os_len,os_cap := y.os_cap,bi_lo := y.bi_lo,bi_len := y.bi_len,bi_cap := y.bi_cap,bs_lo := y.bs_lo,bs_len := y.bs_len,bs_cap := y.bs_cap }
theorem s0_eq (x : p0X) : rngRun EI0_0 39 C50 50 R0.rF (p0.R x) (p0.H x) (leaveK (endK 0 q0)) = s0 x := by kernel_rfl
noncomputable def l0 : LoopS := mkUnit 0 p0 q0 s0
theorem ti0 : topL C50 0 = [(0,C50.bodyAt 0),(1,C50.bodyAt 1)] := by kernel_rfl
theorem l0_ok : RngOkS Try.prog 57 0 R0.rF R0.rP R0.rA R0.rB l0 := mkRng_ok mixed (env_ok ty_ok cl_ok _) (fun hy => yi0_0 hy) s50 (by kernel_rfl) (fun hy => ti0 ▸ (AllL.cons rfl (i0_l0_ok hy) (AllL.cons rfl (i0_l1_ok hy) AllL.nil))) (fun _ => rfl) (fun _ => rfl) s0_eq
noncomputable def E0 : Env := ⟨ty,cfOf cl,lpOf [(0,l0)],none⟩
theorem ur : rngs C19 0 = [(0,R0)] := by kernel_rfl
noncomputable def m (x : gX) : Option fY := bindO (M29.m { i := x.i,s := x.s }) fun y => bif y != 0 then some ([],[],y) else bif x.w == 0 then bindO (M34.m { i := x.i,s := x.s }) fun y => bindO (M36o.m { i_lo := y.fst,i_len := y.snd.fst,i_cap := y.snd.snd.fst,s_lo := y.snd.snd.snd.fst,s_len := y.snd.snd.snd.snd.fst,s_cap := y.snd.snd.snd.snd.snd.fst,xs := y.snd.snd.snd.snd.snd.snd.fst,ys := y.snd.snd.snd.snd.snd.snd.snd }) fun y_1 => bindO (s0 { w := x.w,last := 0,xs := y_1.fst,ys := y_1.snd.fst,oi_lo := y.fst,oi_len := y.snd.fst,oi_cap := y.snd.snd.fst,os_lo := y.snd.snd.snd.fst,os_len := y.snd.snd.snd.snd.fst,os_cap := y.snd.snd.snd.snd.snd.fst,bi_lo := y_1.snd.snd.fst,bi_len := y_1.snd.snd.snd.fst,bi_cap := y_1.snd.snd.snd.snd.fst,bs_lo := y_1.snd.snd.snd.snd.snd.fst,bs_len := y_1.snd.snd.snd.snd.snd.snd.fst,bs_cap := y_1.snd.snd.snd.snd.snd.snd.snd }) fun y => bif leB (y.oi_lo + y.oi_len) y.xs.length && (leB (y.os_lo + y.os_len) y.ys.length && true) && true && true && true then some (List.take y.oi_len (List.drop y.oi_lo y.xs),List.take y.os_len (List.drop y.os_lo y.ys),0) else none else bif x.w == 1 then bindO (M34.m { i := x.i,s := x.s }) fun y => bindO (M36o.m { i_lo := y.fst,i_len := y.snd.fst,i_cap := y.snd.snd.fst,s_lo := y.snd.snd.snd.fst,s_len := y.snd.snd.snd.snd.fst,s_cap := y.snd.snd.snd.snd.snd.fst,xs := y.snd.snd.snd.snd.snd.snd.fst,ys := y.snd.snd.snd.snd.snd.snd.snd }) fun y_1 => bindO (s0 { w := x.w,last := 1,xs := y_1.fst,ys := y_1.snd.fst,oi_lo := y.fst,oi_len := y.snd.fst,oi_cap := y.snd.snd.fst,os_lo := y.snd.snd.snd.fst,os_len := y.snd.snd.snd.snd.fst,os_cap := y.snd.snd.snd.snd.snd.fst,bi_lo := y_1.snd.snd.fst,bi_len := y_1.snd.snd.snd.fst,bi_cap := y_1.snd.snd.snd.snd.fst,bs_lo := y_1.snd.snd.snd.snd.snd.fst,bs_len := y_1.snd.snd.snd.snd.snd.snd.fst,bs_cap := y_1.snd.snd.snd.snd.snd.snd.snd }) fun y => bif leB (y.oi_lo + y.oi_len) y.xs.length && (leB (y.os_lo + y.os_len) y.ys.length && true) && true && true && true then some (List.take y.oi_len (List.drop y.oi_lo y.xs),List.take y.os_len (List.drop y.os_lo y.ys),0) else none else bif x.w == 2 then bindO (M35.m { i := x.i,s := x.s }) fun y => bindO (M40.m { s := y }) fun y => bif decide (y ≥ 0) then bindO (M35.m { i := x.i,s := x.s }) fun y_1 => bif inR y (List.length y_1) then bindO (M34.m { i := x.i,s := x.s }) fun y_2 => bindO (M36o.m { i_lo := y_2.fst,i_len := y_2.snd.fst,i_cap := y_2.snd.snd.fst,s_lo := y_2.snd.snd.snd.fst,s_len := y_2.snd.snd.snd.snd.fst,s_cap := y_2.snd.snd.snd.snd.snd.fst,xs := y_2.snd.snd.snd.snd.snd.snd.fst,ys := y_2.snd.snd.snd.snd.snd.snd.snd }) fun y_3 => bindO (s0 { w := x.w,last := y_1[Int.toNat y]?.getD 0,xs := y_3.fst,ys := y_3.snd.fst,oi_lo := y_2.fst,oi_len := y_2.snd.fst,oi_cap := y_2.snd.snd.fst,os_lo := y_2.snd.snd.snd.fst,os_len := y_2.snd.snd.snd.snd.fst,os_cap := y_2.snd.snd.snd.snd.snd.fst,bi_lo := y_3.snd.snd.fst,bi_len := y_3.snd.snd.snd.fst,bi_cap := y_3.snd.snd.snd.snd.fst,bs_lo := y_3.snd.snd.snd.snd.snd.fst,bs_len := y_3.snd.snd.snd.snd.snd.snd.fst,bs_cap := y_3.snd.snd.snd.snd.snd.snd.snd }) fun y => bif leB (y.oi_lo + y.oi_len) y.xs.length && (leB (y.os_lo + y.os_len) y.ys.length && true) && true && true && true then some (List.take y.oi_len (List.drop y.oi_lo y.xs),List.take y.os_len (List.drop y.os_lo y.ys),0) else none else none else bindO (M34.m { i := x.i,s := x.s }) fun y => bindO (M36o.m { i_lo := y.fst,i_len := y.snd.fst,i_cap := y.snd.snd.fst,s_lo := y.snd.snd.snd.fst,s_len := y.snd.snd.snd.snd.fst,s_cap := y.snd.snd.snd.snd.snd.fst,xs := y.snd.snd.snd.snd.snd.snd.fst,ys := y.snd.snd.snd.snd.snd.snd.snd }) fun y_1 => bindO (s0 { w := x.w,last := 0,xs := y_1.fst,ys := y_1.snd.fst,oi_lo := y.fst,oi_len := y.snd.fst,oi_cap := y.snd.snd.fst,os_lo := y.snd.snd.snd.fst,os_len := y.snd.snd.snd.snd.fst,os_cap := y.snd.snd.snd.snd.snd.fst,bi_lo := y_1.snd.snd.fst,bi_len := y_1.snd.snd.snd.fst,bi_cap := y_1.snd.snd.snd.snd.fst,bs_lo := y_1.snd.snd.snd.snd.snd.fst,bs_len := y_1.snd.snd.snd.snd.snd.snd.fst,bs_cap := y_1.snd.snd.snd.snd.snd.snd.snd }) fun y => bif leB (y.oi_lo + y.oi_len) y.xs.length && (leB (y.os_lo + y.os_len) y.ys.length && true) && true && true && true then some (List.take y.oi_len (List.drop y.oi_lo y.xs),List.take y.os_len (List.drop y.os_lo y.ys),0) else none else some ([],[],1)
theorem m_eq (x : gX) : exec E0 57 C19 0 (initS 0 (g.A x)) (g.H x) (finish 0 ty [.cell 4 29,.tmp 5] f) = m x := by kernel_rfl
theorem tl : topL C19 0 = [] := by kernel_rfl
theorem known : Known Try.prog 19 g f m :=
 mk_known mixed (env_ok ty_ok cl_ok _) s19 rfl rfl tl AllL.nil (fun _ _ => ⟨rfl,rfl⟩) (fun _ _ => ⟨rfl,rfl⟩) m_eq (hg := RgOk.of rfl (ur ▸ (AllR.cons rfl rfl l0_ok AllR.nil)))
noncomputable def con : Con := conT g f m default
theorem con_ok : ConOk Try.prog 19 con := conT_ok known (fun _ => rfl) rfl
end M19
end Go.Proofs.Ytnmlmdlhhphcoaa
namespace Go.Proofs.Ytnmlmdlhhphcoaa
open Go.Abs
set_option maxRecDepth 100000
namespace M47
structure gX where
 s : List UInt8
 sep : List UInt8
def g : Sg gX where
 vs := [.c (.sg),.c (.sg)]
 h := []
 to := fun a b => ⟨a.1,a.2.1⟩
 fa := fun x => (x.s,(x.sep,()))
 fh := fun x => ()
abbrev fY := List UInt8 × List UInt8 × Bool
def f : Ft fY where
 ord := none
 sh := .tup [.inl (.sg),.inl (.sg),.inl (.bo)]
 h := []
 to := fun a b => (a.1,a.2.1,a.2.2.1)
 fv := fun y => (y.1,(y.2.1,(y.2.2,())))
 fh := fun y => ()
noncomputable def cl : List (FuncId × Con) := [(53,M53.con)]
theorem cl_ok : allCon Try.prog cl := ⟨M53.con_ok,trivial⟩
noncomputable def E0 : Env := ⟨ty,cfOf cl,fun _ => none,none⟩
noncomputable def m (x : gX) : Option fY := bindO (M53.m { s := x.s,sep := x.sep }) fun y => some (y.fst,y.snd.fst,y.snd.snd)
theorem m_eq (x : gX) : exec E0 13 C47 0 (initS 0 (g.A x)) (g.H x) (finish 0 ty [.tmp 4,.tmp 5,.tmp 6] f) = m x := by kernel_rfl
theorem tl : topL C47 0 = [] := by kernel_rfl
theorem known : Known Try.prog 47 g f m :=
 mk_known mixed (env_ok ty_ok cl_ok _) s47 rfl rfl tl AllL.nil (fun _ _ => ⟨rfl,rfl⟩) (fun _ _ => ⟨rfl,rfl⟩) m_eq
noncomputable def con : Con := conT g f m default
theorem con_ok : ConOk Try.prog 47 con := conT_ok known (fun _ => rfl) rfl
end M47
namespace M27
structure gX where
 s : List UInt8
def g : Sg gX where
 vs := [.c (.sg)]
 h := []
 to := fun a b => ⟨a.1⟩
 fa := fun x => (x.s,())
 fh := fun x => ()
abbrev fY := List (Int) × List (Int) × Int
def f : Ft fY where
 ord := none
 sh := .tup [.inr [.arr (.int .u8),.arr (.int .u8)],.inl (.it .i64)]
 h := []
 to := fun a b => (a.1.1,a.1.2.1,a.2.1)
 fv := fun y => ((y.1,(y.2.1,())),(y.2.2,()))
 fh := fun y => ()
noncomputable def cl : List (FuncId × Con) := [(47,M47.con),(36,M36o.con),(48,M48.con)]
theorem cl_ok : allCon Try.prog cl := ⟨M47.con_ok,M36o.con_ok,M48.con_ok,trivial⟩
def R0 : CC := C27.rngAt 0
noncomputable def EB0_0 : Env := ⟨ty,cfOf cl,fun _ => none,none⟩
structure bp0aX where
 i : Int
 v : Nat
 ri : List (Int)
 rs : List (Int)
 e : Int
 left : List UInt8
 right : List UInt8
 xs : List (Int)
 ys : List (Int)
 oi_lo : Nat
 oi_len : Nat
 oi_cap : Nat
 os_lo : Nat
 os_len : Nat
 os_cap : Nat
 bi_lo : Nat
 bi_len : Nat
 bi_cap : Nat
 bs_lo : Nat
 bs_len : Nat
 bs_cap : Nat
def bp0a : Pt bp0aX where
 own := []
 t := ⟨[(2,.c (.ptr 0 0)),(3,.c (.ptr 1 0)),(4,.c (.ptr 2 0)),(5,.c (.ptr 3 0)),(7,.c (.ptr 6 0)),(33,.c (.it .i64)),(34,.c (.el 4 0 1 0)),(1000000,.c (.clo 1000000 [])),(1000001,.c (.ptr 7 0)),(2000002,.c (.ptr 0 0)),(2000003,.c (.ptr 1 0)),(2000004,.c (.ptr 2 0)),(2000005,.c (.ptr 3 0)),(2000007,.c (.ptr 6 0))],[.st [.arr (.int .u8),.arr (.int .u8)] 1 0,.st [.it .i64] 1 0,.st [.sg] 1 0,.st [.sg] 1 0,.arr (.int .u8) 0,.arr (.int .u8) 0,.st [.slc 4 0 1,.slc 5 0 1] 1 0,.st [.slc 4 0 1,.slc 5 0 1] 1 0]⟩
 to := fun v => ⟨v.1.2.2.2.2.2.1,v.1.2.2.2.2.2.2.1,v.2.1.1,v.2.1.2.1,v.2.2.1.1,v.2.2.2.1.1,v.2.2.2.2.1.1,v.2.2.2.2.2.1,v.2.2.2.2.2.2.1,v.2.2.2.2.2.2.2.1.1.1,v.2.2.2.2.2.2.2.1.1.2.1,v.2.2.2.2.2.2.2.1.1.2.2,v.2.2.2.2.2.2.2.1.2.1.1,v.2.2.2.2.2.2.2.1.2.1.2.1,v.2.2.2.2.2.2.2.1.2.1.2.2,v.2.2.2.2.2.2.2.2.1.1.1,v.2.2.2.2.2.2.2.2.1.1.2.1,v.2.2.2.2.2.2.2.2.1.1.2.2,v.2.2.2.2.2.2.2.2.1.2.1.1,v.2.2.2.2.2.2.2.2.1.2.1.2.1,v.2.2.2.2.2.2.2.2.1.2.1.2.2⟩
 fr := fun x => (((),((),((),((),((),(x.i,(x.v,((),((),((),((),((),((),((),())))))))))))))),((x.ri,(x.rs,())),((x.e,()),((x.left,()),((x.right,()),(x.xs,(x.ys,(((x.oi_lo,x.oi_len,x.oi_cap),((x.os_lo,x.os_len,x.os_cap),())),(((x.bi_lo,x.bi_len,x.bi_cap),((x.bs_lo,x.bs_len,x.bs_cap),())),())))))))))
structure bq0aX where
 ri : List (Int)
 rs : List (Int)
 e : Int
 left : List UInt8
 right : List UInt8
 xs : List (Int)
 ys : List (Int)
 oi_lo : Nat
 oi_len : Nat
 oi_cap : Nat
 os_lo : Nat
 os_len : Nat
 os_cap : Nat
 bi_lo : Nat
 bi_len : Nat
 bi_cap : Nat
 bs_lo : Nat
 bs_len : Nat
 bs_cap : Nat
def bq0a : Pt bq0aX where
 own := []
 t := ⟨[(1000000,.c (.clo 1000000 [])),(1000001,.c (.ptr 7 0)),(2000002,.c (.ptr 0 0)),(2000003,.c (.ptr 1 0)),(2000004,.c (.ptr 2 0)),(2000005,.c (.ptr 3 0)),(2000007,.c (.ptr 6 0))],[.st [.arr (.int .u8),.arr (.int .u8)] 1 0,.st [.it .i64] 1 0,.st [.sg] 1 0,.st [.sg] 1 0,.arr (.int .u8) 0,.arr (.int .u8) 0,.st [.slc 4 0 1,.slc 5 0 1] 1 0,.st [.slc 4 0 1,.slc 5 0 1] 1 0]⟩
 to := fun v => ⟨v.2.1.1,v.2.1.2.1,v.2.2.1.1,v.2.2.2.1.1,v.2.2.2.2.1.1,v.2.2.2.2.2.1,v.2.2.2.2.2.2.1,v.2.2.2.2.2.2.2.1.1.1,v.2.2.2.2.2.2.2.1.1.2.1,v.2.2.2.2.2.2.2.1.1.2.2,v.2.2.2.2.2.2.2.1.2.1.1,v.2.2.2.2.2.2.2.1.2.1.2.1,v.2.2.2.2.2.2.2.1.2.1.2.2,v.2.2.2.2.2.2.2.2.1.1.1,v.2.2.2.2.2.2.2.2.1.1.2.1,v.2.2.2.2.2.2.2.2.1.1.2.2,v.2.2.2.2.2.2.2.2.1.2.1.1,v.2.2.2.2.2.2.2.2.1.2.1.2.1,v.2.2.2.2.2.2.2.2.1.2.1.2.2⟩
 fr := fun x => (((),((),((),((),((),((),((),()))))))),((x.ri,(x.rs,())),((x.e,()),((x.left,()),((x.right,()),(x.xs,(x.ys,(((x.oi_lo,x.oi_len,x.oi_cap),((x.os_lo,x.os_len,x.os_cap),())),(((x.bi_lo,x.bi_len,x.bi_cap),((x.bs_lo,x.bs_len,x.bs_cap),())),())))))))))
structure bz0aX where
 ri : List (Int)
 rs : List (Int)
 e : Int
 left : List UInt8
 right : List UInt8
 xs : List (Int)
 ys : List (Int)
 oi_lo : Nat
 oi_len : Nat
 oi_cap : Nat
 os_lo : Nat
 os_len : Nat
 os_cap : Nat
 bi_lo : Nat
 bi_len : Nat
 bi_cap : Nat
 bs_lo : Nat
 bs_len : Nat
 bs_cap : Nat
def bz0a : Pt bz0aX where
 own := []
 t := ⟨[(1000000,.c (.clo 1000000 [])),(1000001,.c (.ptr 7 0)),(2000002,.c (.ptr 0 0)),(2000003,.c (.ptr 1 0)),(2000004,.c (.ptr 2 0)),(2000005,.c (.ptr 3 0)),(2000007,.c (.ptr 6 0))],[.st [.arr (.int .u8),.arr (.int .u8)] 1 0,.st [.it .i64] 1 0,.st [.sg] 1 0,.st [.sg] 1 0,.arr (.int .u8) 0,.arr (.int .u8) 0,.st [.slc 4 0 1,.slc 5 0 1] 1 0,.st [.slc 4 0 1,.slc 5 0 1] 1 0]⟩
 to := fun v => ⟨v.2.1.1,v.2.1.2.1,v.2.2.1.1,v.2.2.2.1.1,v.2.2.2.2.1.1,v.2.2.2.2.2.1,v.2.2.2.2.2.2.1,v.2.2.2.2.2.2.2.1.1.1,v.2.2.2.2.2.2.2.1.1.2.1,v.2.2.2.2.2.2.2.1.1.2.2,v.2.2.2.2.2.2.2.1.2.1.1,v.2.2.2.2.2.2.2.1.2.1.2.1,v.2.2.2.2.2.2.2.1.2.1.2.2,v.2.2.2.2.2.2.2.2.1.1.1,v.2.2.2.2.2.2.2.2.1.1.2.1,v.2.2.2.2.2.2.2.2.1.1.2.2,v.2.2.2.2.2.2.2.2.1.2.1.1,v.2.2.2.2.2.2.2.2.1.2.1.2.1,v.2.2.2.2.2.2.2.2.1.2.1.2.2⟩
 fr := fun x => (((),((),((),((),((),((),((),()))))))),((x.ri,(x.rs,())),((x.e,()),((x.left,()),((x.right,()),(x.xs,(x.ys,(((x.oi_lo,x.oi_len,x.oi_cap),((x.os_lo,x.os_len,x.os_cap),())),(((x.bi_lo,x.bi_len,x.bi_cap),((x.bs_lo,x.bs_len,x.bs_cap),())),())))))))))
noncomputable def sb0a (x : bp0aX) : Option (bq0aX ⊕ bz0aX) := bif leB (x.left.length + x.right.length) 9223372036854775807 then bif inR x.i (x.left ++ x.right).length then bindO (M48.m { s := [48,49,88],c := byteAt (x.left ++ x.right) x.i.toNat }) fun y => bif decide (y < 0) then some (Sum.inr { ri := [],rs := [],e := 4,left := x.left,right := x.right,xs := x.xs,ys := x.ys,oi_lo := x.oi_lo,oi_len := x.oi_len,oi_cap := x.oi_cap,os_lo := x.os_lo,os_len := x.os_len,os_cap := x.os_cap,bi_lo := x.bi_lo,bi_len := x.bi_len,bi_cap := x.bi_cap,bs_lo := x.bs_lo,bs_len := x.bs_len,bs_cap := x.bs_cap }) else bif decide (x.v < x.xs.length) then some (Sum.inl { ri := x.ri,rs := x.rs,e := x.e,left := x.left,right := x.right,xs := x.xs.set x.v (IntKind.u8.wrap y),ys := x.ys,oi_lo := x.oi_lo,oi_len := x.oi_len,oi_cap := x.oi_cap,os_lo := x.os_lo,os_len := x.os_len,os_cap := x.os_cap,bi_lo := x.bi_lo,bi_len := x.bi_len,bi_cap := x.bi_cap,bs_lo := x.bs_lo,bs_len := x.bs_len,bs_cap := x.bs_cap }) else none else none
else none
theorem sb0a_eq (x : bp0aX) : roundRun EB0_0 49 R0.rA R0.rB (bp0a.R x) (bp0a.H x) (endK2 0 bq0a .ret bz0a) = sb0a x := by kernel_rfl
noncomputable def ub0a : LoopS := mkUnit2 0 bp0a bq0a .ret bz0a sb0a
theorem ta0a : topL R0.rA 0 = [] := by kernel_rfl
theorem tb0a : topL R0.rB R0.rA.nl = [] := by kernel_rfl
theorem ub0a_ok {y : YI} (hy : Rnd R0.rA R0.rB R0.rP 49 y) : BodyOkS Try.prog 49 0 y.assign y.body ub0a := mkBody2_ok mixed (env_ok ty_ok cl_ok _) rfl ⟨by kernel_rfl,by kernel_rfl⟩ (fun _ => rfl) (fun _ => rfl) (fun _ => rfl) (fun _ => ta0a ▸ AllL.nil) (fun l => tb0a ▸ AllL.nil) sb0a_eq hy
structure bp0bX where
 i : Int
 v : Nat
 ri : List (Int)
 rs : List (Int)
 e : Int
 left : List UInt8
 right : List UInt8
 xs : List (Int)
 ys : List (Int)
 oi_lo : Nat
 oi_len : Nat
 oi_cap : Nat
 os_lo : Nat
 os_len : Nat
 os_cap : Nat
 bi_lo : Nat
 bi_len : Nat
 bi_cap : Nat
 bs_lo : Nat
 bs_len : Nat
 bs_cap : Nat
def bp0b : Pt bp0bX where
 own := []
 t := ⟨[(2,.c (.ptr 0 0)),(3,.c (.ptr 1 0)),(4,.c (.ptr 2 0)),(5,.c (.ptr 3 0)),(7,.c (.ptr 6 0)),(33,.c (.it .i64)),(34,.c (.el 5 0 1 0)),(1000000,.c (.clo 1000000 [])),(1000001,.c (.ptr 7 0)),(2000002,.c (.ptr 0 0)),(2000003,.c (.ptr 1 0)),(2000004,.c (.ptr 2 0)),(2000005,.c (.ptr 3 0)),(2000007,.c (.ptr 6 0))],[.st [.arr (.int .u8),.arr (.int .u8)] 1 0,.st [.it .i64] 1 0,.st [.sg] 1 0,.st [.sg] 1 0,.arr (.int .u8) 0,.arr (.int .u8) 0,.st [.slc 4 0 1,.slc 5 0 1] 1 0,.st [.slc 4 0 1,.slc 5 0 1] 1 0]⟩
 to := fun v => ⟨v.1.2.2.2.2.2.1,v.1.2.2.2.2.2.2.1,v.2.1.1,v.2.1.2.1,v.2.2.1.1,v.2.2.2.1.1,v.2.2.2.2.1.1,v.2.2.2.2.2.1,v.2.2.2.2.2.2.1,v.2.2.2.2.2.2.2.1.1.1,v.2.2.2.2.2.2.2.1.1.2.1,v.2.2.2.2.2.2.2.1.1.2.2,v.2.2.2.2.2.2.2.1.2.1.1,v.2.2.2.2.2.2.2.1.2.1.2.1,v.2.2.2.2.2.2.2.1.2.1.2.2,v.2.2.2.2.2.2.2.2.1.1.1,v.2.2.2.2.2.2.2.2.1.1.2.1,v.2.2.2.2.2.2.2.2.1.1.2.2,v.2.2.2.2.2.2.2.2.1.2.1.1,v.2.2.2.2.2.2.2.2.1.2.1.2.1,v.2.2.2.2.2.2.2.2.1.2.1.2.2⟩
 fr := fun x => (((),((),((),((),((),(x.i,(x.v,((),((),((),((),((),((),((),())))))))))))))),((x.ri,(x.rs,())),((x.e,()),((x.left,()),((x.right,()),(x.xs,(x.ys,(((x.oi_lo,x.oi_len,x.oi_cap),((x.os_lo,x.os_len,x.os_cap),())),(((x.bi_lo,x.bi_len,x.bi_cap),((x.bs_lo,x.bs_len,x.bs_cap),())),())))))))))
structure bq0bX where
 ri : List (Int)
 rs : List (Int)
 e : Int
 left : List UInt8
 right : List UInt8
 xs : List (Int)
 ys : List (Int)
 oi_lo : Nat
 oi_len : Nat
 oi_cap : Nat
 os_lo : Nat
 os_len : Nat
 os_cap : Nat
 bi_lo : Nat
 bi_len : Nat
 bi_cap : Nat
 bs_lo : Nat
 bs_len : Nat
 bs_cap : Nat
def bq0b : Pt bq0bX where
 own := []
 t := ⟨[(1000000,.c (.clo 1000000 [])),(1000001,.c (.ptr 7 0)),(2000002,.c (.ptr 0 0)),(2000003,.c (.ptr 1 0)),(2000004,.c (.ptr 2 0)),(2000005,.c (.ptr 3 0)),(2000007,.c (.ptr 6 0))],[.st [.arr (.int .u8),.arr (.int .u8)] 1 0,.st [.it .i64] 1 0,.st [.sg] 1 0,.st [.sg] 1 0,.arr (.int .u8) 0,.arr (.int .u8) 0,.st [.slc 4 0 1,.slc 5 0 1] 1 0,.st [.slc 4 0 1,.slc 5 0 1] 1 0]⟩
 to := fun v => ⟨v.2.1.1,v.2.1.2.1,v.2.2.1.1,v.2.2.2.1.1,v.2.2.2.2.1.1,v.2.2.2.2.2.1,v.2.2.2.2.2.2.1,v.2.2.2.2.2.2.2.1.1.1,v.2.2.2.2.2.2.2.1.1.2.1,v.2.2.2.2.2.2.2.1.1.2.2,v.2.2.2.2.2.2.2.1.2.1.1,v.2.2.2.2.2.2.2.1.2.1.2.1,v.2.2.2.2.2.2.2.1.2.1.2.2,v.2.2.2.2.2.2.2.2.1.1.1,v.2.2.2.2.2.2.2.2.1.1.2.1,v.2.2.2.2.2.2.2.2.1.1.2.2,v.2.2.2.2.2.2.2.2.1.2.1.1,v.2.2.2.2.2.2.2.2.1.2.1.2.1,v.2.2.2.2.2.2.2.2.1.2.1.2.2⟩
 fr := fun x => (((),((),((),((),((),((),((),()))))))),((x.ri,(x.rs,())),((x.e,()),((x.left,()),((x.right,()),(x.xs,(x.ys,(((x.oi_lo,x.oi_len,x.oi_cap),((x.os_lo,x.os_len,x.os_cap),())),(((x.bi_lo,x.bi_len,x.bi_cap),((x.bs_lo,x.bs_len,x.bs_cap),())),())))))))))
structure bz0bX where
 ri : List (Int)
 rs : List (Int)
 e : Int
 left : List UInt8
 right : List UInt8
 xs : List (Int)
 ys : List (Int)
 oi_lo : Nat
 oi_len : Nat
 oi_cap : Nat
 os_lo : Nat
 os_len : Nat
 os_cap : Nat
 bi_lo : Nat
 bi_len : Nat
 bi_cap : Nat
 bs_lo : Nat
 bs_len : Nat
 bs_cap : Nat
def bz0b : Pt bz0bX where
 own := []
 t := ⟨[(1000000,.c (.clo 1000000 [])),(1000001,.c (.ptr 7 0)),(2000002,.c (.ptr 0 0)),(2000003,.c (.ptr 1 0)),(2000004,.c (.ptr 2 0)),(2000005,.c (.ptr 3 0)),(2000007,.c (.ptr 6 0))],[.st [.arr (.int .u8),.arr (.int .u8)] 1 0,.st [.it .i64] 1 0,.st [.sg] 1 0,.st [.sg] 1 0,.arr (.int .u8) 0,.arr (.int .u8) 0,.st [.slc 4 0 1,.slc 5 0 1] 1 0,.st [.slc 4 0 1,.slc 5 0 1] 1 0]⟩
 to := fun v => ⟨v.2.1.1,v.2.1.2.1,v.2.2.1.1,v.2.2.2.1.1,v.2.2.2.2.1.1,v.2.2.2.2.2.1,v.2.2.2.2.2.2.1,v.2.2.2.2.2.2.2.1.1.1,v.2.2.2.2.2.2.2.1.1.2.1,v.2.2.2.2.2.2.2.1.1.2.2,v.2.2.2.2.2.2.2.1.2.1.1,v.2.2.2.2.2.2.2.1.2.1.2.1,v.2.2.2.2.2.2.2.1.2.1.2.2,v.2.2.2.2.2.2.2.2.1.1.1,v.2.2.2.2.2.2.2.2.1.1.2.1,v.2.2.2.2.2.2.2.2.1.1.2.2,v.2.2.2.2.2.2.2.2.1.2.1.1,v.2.2.2.2.2.2.2.2.1.2.1.2.1,v.2.2.2.2.2.2.2.2.1.2.1.2.2⟩
 fr := fun x => (((),((),((),((),((),((),((),()))))))),((x.ri,(x.rs,())),((x.e,()),((x.left,()),((x.right,()),(x.xs,(x.ys,(((x.oi_lo,x.oi_len,x.oi_cap),((x.os_lo,x.os_len,x.os_cap),())),(((x.bi_lo,x.bi_len,x.bi_cap),((x.bs_lo,x.bs_len,x.bs_cap),())),())))))))))
noncomputable def sb0b (x : bp0bX) : Option (bq0bX ⊕ bz0bX) := bif leB (x.left.length + x.right.length) 9223372036854775807 then bif inR x.i (x.left ++ x.right).length then bindO (M48.m { s := [48,49,88],c := byteAt (x.left ++ x.right) x.i.toNat }) fun y => bif decide (y < 0) then some (Sum.inr { ri := [],rs := [],e := 4,left := x.left,right := x.right,xs := x.xs,ys := x.ys,oi_lo := x.oi_lo,oi_len := x.oi_len,oi_cap := x.oi_cap,os_lo := x.os_lo,os_len := x.os_len,os_cap := x.os_cap,bi_lo := x.bi_lo,bi_len := x.bi_len,bi_cap := x.bi_cap,bs_lo := x.bs_lo,bs_len := x.bs_len,bs_cap := x.bs_cap }) else bif decide (x.v < x.ys.length) then some (Sum.inl { ri := x.ri,rs := x.rs,e := x.e,left := x.left,right := x.right,xs := x.xs,ys := x.ys.set x.v (IntKind.u8.wrap y),oi_lo := x.oi_lo,oi_len := x.oi_len,oi_cap := x.oi_cap,os_lo := x.os_lo,os_len := x.os_len,os_cap := x.os_cap,bi_lo := x.bi_lo,bi_len := x.bi_len,bi_cap := x.bi_cap,bs_lo := x.bs_lo,bs_len := x.bs_len,bs_cap := x.bs_cap }) else none else none
else none
theorem sb0b_eq (x : bp0bX) : roundRun EB0_0 49 R0.rA R0.rB (bp0b.R x) (bp0b.H x) (endK2 0 bq0b .ret bz0b) = sb0b x := by kernel_rfl
noncomputable def ub0b : LoopS := mkUnit2 0 bp0b bq0b .ret bz0b sb0b
theorem ta0b : topL R0.rA 0 = [] := by kernel_rfl
theorem tb0b : topL R0.rB R0.rA.nl = [] := by kernel_rfl
theorem ub0b_ok {y : YI} (hy : Rnd R0.rA R0.rB R0.rP 49 y) : BodyOkS Try.prog 49 0 y.assign y.body ub0b := mkBody2_ok mixed (env_ok ty_ok cl_ok _) rfl ⟨by kernel_rfl,by kernel_rfl⟩ (fun _ => rfl) (fun _ => rfl) (fun _ => rfl) (fun _ => ta0b ▸ AllL.nil) (fun l => tb0b ▸ AllL.nil) sb0b_eq hy
noncomputable def ub0 : LoopS := .alt ub0a ub0b
theorem ub0_ok {y : YI} (hy : Rnd R0.rA R0.rB R0.rP 49 y) : BodyOkS Try.prog 49 0 y.assign y.body ub0 := ⟨ub0a_ok hy,ub0b_ok hy⟩
noncomputable def EI0_2 : Env := ⟨ty,cfOf cl,fun _ => none,some (R0.rP,ub0)⟩
theorem yi0_2 {y : YI} (hy : Rnd R0.rA R0.rB R0.rP 49 y) : YldOk Try.prog 0 EI0_2 (some y) := yld_ok rfl (by kernel_rfl) (by kernel_rfl) ub0_ok hy
structure i0_p1X where
 n2 : Int
 i2 : Int
 ri : List (Int)
 rs : List (Int)
 e : Int
 left : List UInt8
 right : List UInt8
 xs : List (Int)
 ys : List (Int)
 oi_lo : Nat
 oi_len : Nat
 oi_cap : Nat
 os_lo : Nat
 os_len : Nat
 os_cap : Nat
 bi_lo : Nat
 bi_len : Nat
 bi_cap : Nat
 bs_lo : Nat
 bs_len : Nat
 bs_cap : Nat
def i0_p1 : Pt i0_p1X where
 own := []
 t := ⟨[(0,.c (.clo 1000000 [])),(1,.c (.ptr 7 0)),(22,.c (.it .i64)),(23,.c (.it .i64)),(2000002,.c (.ptr 0 0)),(2000003,.c (.ptr 1 0)),(2000004,.c (.ptr 2 0)),(2000005,.c (.ptr 3 0)),(2000007,.c (.ptr 6 0)),(3000000,.c (.fn 0))],[.st [.arr (.int .u8),.arr (.int .u8)] 1 0,.st [.it .i64] 1 0,.st [.sg] 1 0,.st [.sg] 1 0,.arr (.int .u8) 0,.arr (.int .u8) 0,.st [.slc 4 0 1,.slc 5 0 1] 1 0,.st [.slc 4 0 1,.slc 5 0 1] 1 0]⟩
 to := fun v => ⟨v.1.2.2.1,v.1.2.2.2.1,v.2.1.1,v.2.1.2.1,v.2.2.1.1,v.2.2.2.1.1,v.2.2.2.2.1.1,v.2.2.2.2.2.1,v.2.2.2.2.2.2.1,v.2.2.2.2.2.2.2.1.1.1,v.2.2.2.2.2.2.2.1.1.2.1,v.2.2.2.2.2.2.2.1.1.2.2,v.2.2.2.2.2.2.2.1.2.1.1,v.2.2.2.2.2.2.2.1.2.1.2.1,v.2.2.2.2.2.2.2.1.2.1.2.2,v.2.2.2.2.2.2.2.2.1.1.1,v.2.2.2.2.2.2.2.2.1.1.2.1,v.2.2.2.2.2.2.2.2.1.1.2.2,v.2.2.2.2.2.2.2.2.1.2.1.1,v.2.2.2.2.2.2.2.2.1.2.1.2.1,v.2.2.2.2.2.2.2.2.1.2.1.2.2⟩
 fr := fun x => (((),((),(x.n2,(x.i2,((),((),((),((),((),((),())))))))))),((x.ri,(x.rs,())),((x.e,()),((x.left,()),((x.right,()),(x.xs,(x.ys,(((x.oi_lo,x.oi_len,x.oi_cap),((x.os_lo,x.os_len,x.os_cap),())),(((x.bi_lo,x.bi_len,x.bi_cap),((x.bs_lo,x.bs_len,x.bs_cap),())),())))))))))
structure i0_q1X where
 ri : List (Int)
 rs : List (Int)
 e : Int
 left : List UInt8
 right : List UInt8
 xs : List (Int)
 ys : List (Int)
 oi_lo : Nat
 oi_len : Nat
 oi_cap : Nat
 os_lo : Nat
 os_len : Nat
 os_cap : Nat
 bi_lo : Nat
 bi_len : Nat
 bi_cap : Nat
 bs_lo : Nat
 bs_len : Nat
 bs_cap : Nat
def i0_q1 : Pt i0_q1X where
 own := []
 t := ⟨[(2000002,.c (.ptr 0 0)),(2000003,.c (.ptr 1 0)),(2000004,.c (.ptr 2 0)),(2000005,.c (.ptr 3 0)),(2000007,.c (.ptr 6 0)),(3000000,.c (.fn 0))],[.st [.arr (.int .u8),.arr (.int .u8)] 1 0,.st [.it .i64] 1 0,.st [.sg] 1 0,.st [.sg] 1 0,.arr (.int .u8) 0,.arr (.int .u8) 0,.st [.slc 4 0 1,.slc 5 0 1] 1 0,.st [.slc 4 0 1,.slc 5 0 1] 1 0]⟩
 to := fun v => ⟨v.2.1.1,v.2.1.2.1,v.2.2.1.1,v.2.2.2.1.1,v.2.2.2.2.1.1,v.2.2.2.2.2.1,v.2.2.2.2.2.2.1,v.2.2.2.2.2.2.2.1.1.1,v.2.2.2.2.2.2.2.1.1.2.1,v.2.2.2.2.2.2.2.1.1.2.2,v.2.2.2.2.2.2.2.1.2.1.1,v.2.2.2.2.2.2.2.1.2.1.2.1,v.2.2.2.2.2.2.2.1.2.1.2.2,v.2.2.2.2.2.2.2.2.1.1.1,v.2.2.2.2.2.2.2.2.1.1.2.1,v.2.2.2.2.2.2.2.2.1.1.2.2,v.2.2.2.2.2.2.2.2.1.2.1.1,v.2.2.2.2.2.2.2.2.1.2.1.2.1,v.2.2.2.2.2.2.2.2.1.2.1.2.2⟩
 fr := fun x => (((),((),((),((),((),((),())))))),((x.ri,(x.rs,())),((x.e,()),((x.left,()),((x.right,()),(x.xs,(x.ys,(((x.oi_lo,x.oi_len,x.oi_cap),((x.os_lo,x.os_len,x.os_cap),())),(((x.bi_lo,x.bi_len,x.bi_cap),((x.bs_lo,x.bs_len,x.bs_cap),())),())))))))))
structure i0_z1X where
 ri : List (Int)
 rs : List (Int)
 e : Int
 left : List UInt8
 right : List UInt8
 xs : List (Int)
 ys : List (Int)
 oi_lo : Nat
 oi_len : Nat
 oi_cap : Nat
 os_lo : Nat
 os_len : Nat
 os_cap : Nat
 bi_lo : Nat
 bi_len : Nat
 bi_cap : Nat
 bs_lo : Nat
 bs_len : Nat
 bs_cap : Nat
def i0_z1 : Pt i0_z1X where
 own := []
 t := ⟨[(2000002,.c (.ptr 0 0)),(2000003,.c (.ptr 1 0)),(2000004,.c (.ptr 2 0)),(2000005,.c (.ptr 3 0)),(2000007,.c (.ptr 6 0)),(3000000,.c (.fn 2))],[.st [.arr (.int .u8),.arr (.int .u8)] 1 0,.st [.it .i64] 1 0,.st [.sg] 1 0,.st [.sg] 1 0,.arr (.int .u8) 0,.arr (.int .u8) 0,.st [.slc 4 0 1,.slc 5 0 1] 1 0,.st [.slc 4 0 1,.slc 5 0 1] 1 0]⟩
 to := fun v => ⟨v.2.1.1,v.2.1.2.1,v.2.2.1.1,v.2.2.2.1.1,v.2.2.2.2.1.1,v.2.2.2.2.2.1,v.2.2.2.2.2.2.1,v.2.2.2.2.2.2.2.1.1.1,v.2.2.2.2.2.2.2.1.1.2.1,v.2.2.2.2.2.2.2.1.1.2.2,v.2.2.2.2.2.2.2.1.2.1.1,v.2.2.2.2.2.2.2.1.2.1.2.1,v.2.2.2.2.2.2.2.1.2.1.2.2,v.2.2.2.2.2.2.2.2.1.1.1,v.2.2.2.2.2.2.2.2.1.1.2.1,v.2.2.2.2.2.2.2.2.1.1.2.2,v.2.2.2.2.2.2.2.2.1.2.1.1,v.2.2.2.2.2.2.2.2.1.2.1.2.1,v.2.2.2.2.2.2.2.2.1.2.1.2.2⟩
 fr := fun x => (((),((),((),((),((),((),())))))),((x.ri,(x.rs,())),((x.e,()),((x.left,()),((x.right,()),(x.xs,(x.ys,(((x.oi_lo,x.oi_len,x.oi_cap),((x.os_lo,x.os_len,x.os_cap),())),(((x.bi_lo,x.bi_len,x.bi_cap),((x.bs_lo,x.bs_len,x.bs_cap),())),())))))))))
noncomputable def i0_s1 (x : i0_p1X) : Option (i0_p1X ⊕ (i0_q1X ⊕ i0_z1X)) := bif decide (x.i2 < x.n2) then bif inR x.i2 x.bs_len then bindO (sb0b { i := IntKind.i64.wrap ((↑x.bi_len : Int) + x.i2),v := x.bs_lo + x.i2.toNat,ri := x.ri,rs := x.rs,e := x.e,left := x.left,right := x.right,xs := x.xs,ys := x.ys,oi_lo := x.oi_lo,oi_len := x.oi_len,oi_cap := x.oi_cap,os_lo := x.os_lo,os_len := x.os_len,os_cap := x.os_cap,bi_lo := x.bi_lo,bi_len := x.bi_len,bi_cap := x.bi_cap,bs_lo := x.bs_lo,bs_len := x.bs_len,bs_cap := x.bs_cap }) fun s => sumC s (fun y => some (Sum.inl { n2 := x.n2,i2 := IntKind.i64.wrap (x.i2 + 1),ri := y.ri,rs := y.rs,e := y.e,left := y.left,right := y.right,xs := y.xs,ys := y.ys,oi_lo := y.oi_lo,oi_len := y.oi_len,oi_cap := y.oi_cap,os_lo := y.os_lo,os_len := y.os_len,os_cap := y.os_cap,bi_lo := y.bi_lo,bi_len := y.bi_len,bi_cap := y.bi_cap,bs_lo := y.bs_lo,bs_len := y.bs_len,bs_cap := y.bs_cap })) fun z => some (Sum.inr (Sum.inr { ri := z.ri,rs := z.rs,e := z.e,left := z.left,right := z.right,xs := z.xs,ys := z.ys,oi_lo := z.oi_lo,oi_len := z.oi_len,oi_cap := z.oi_cap,os_lo := z.os_lo,os_len := z.os_len,os_cap := z.os_cap,bi_lo := z.bi_lo,bi_len := z.bi_len,bi_cap := z.bi_cap,bs_lo := z.bs_lo,bs_len := z.bs_len,bs_cap := z.bs_cap })) else none
else
 some
  (Sum.inr
   (Sum.inl
    {ri := x.ri,rs := x.rs,e := x.e,left := x.left,right := x.right,xs := x.xs,ys := x.ys,oi_lo := x.oi_lo,oi_len := x.oi_len,oi_cap := x.oi_cap,os_lo := x.os_lo,
     os_len := x.os_len,os_cap := x.os_cap,bi_lo := x.bi_lo,bi_len := x.bi_len,bi_cap := x.bi_cap,bs_lo := x.bs_lo,bs_len := x.bs_len,bs_cap := x.bs_cap }))
theorem i0_s1_eq (x : i0_p1X) : exec EI0_2 39 (C50.bodyAt 1) 2 (i0_p1.R x) (i0_p1.H x) (roundK2 0 i0_p1 (.exit 2) i0_q1 .ret i0_z1) = i0_s1 x := by kernel_rfl
noncomputable def i0_l1 : LoopS := mkLoop2 0 i0_p1 (.exit 2) i0_q1 .ret i0_z1 i0_s1
theorem ti0_l1 : topL (C50.bodyAt 1) 2 = [] := by kernel_rfl
theorem i0_l1_ok {y : YI} (hy : Rnd R0.rA R0.rB R0.rP 49 y) : LoopOkS Try.prog 39 none 0 (C50.bodyAt 1) i0_l1 (some y) := mkLoop2_ok mixed (env_ok ty_ok cl_ok _) (by trivial) (by trivial) (fun _ => rfl) (fun _ => rfl) (fun _ => rfl) (ti0_l1 ▸ AllL.nil) i0_s1_eq (hyk := yi0_2 hy)
noncomputable def EI0_1 : Env := ⟨ty,cfOf cl,lpOf [(1,i0_l1)],some (R0.rP,ub0)⟩
theorem yi0_1 {y : YI} (hy : Rnd R0.rA R0.rB R0.rP 49 y) : YldOk Try.prog 0 EI0_1 (some y) := yld_ok rfl (by kernel_rfl) (by kernel_rfl) ub0_ok hy
structure i0_p0X where
 n : Int
 i : Int
 ri : List (Int)
 rs : List (Int)
 e : Int
 left : List UInt8
 right : List UInt8
 xs : List (Int)
 ys : List (Int)
 oi_lo : Nat
 oi_len : Nat
 oi_cap : Nat
 os_lo : Nat
 os_len : Nat
 os_cap : Nat
 bi_lo : Nat
 bi_len : Nat
 bi_cap : Nat
 bs_lo : Nat
 bs_len : Nat
 bs_cap : Nat
def i0_p0 : Pt i0_p0X where
 own := []
 t := ⟨[(0,.c (.clo 1000000 [])),(1,.c (.ptr 7 0)),(7,.c (.it .i64)),(8,.c (.it .i64)),(2000002,.c (.ptr 0 0)),(2000003,.c (.ptr 1 0)),(2000004,.c (.ptr 2 0)),(2000005,.c (.ptr 3 0)),(2000007,.c (.ptr 6 0)),(3000000,.c (.fn 0))],[.st [.arr (.int .u8),.arr (.int .u8)] 1 0,.st [.it .i64] 1 0,.st [.sg] 1 0,.st [.sg] 1 0,.arr (.int .u8) 0,.arr (.int .u8) 0,.st [.slc 4 0 1,.slc 5 0 1] 1 0,.st [.slc 4 0 1,.slc 5 0 1] 1 0]⟩
 to := fun v => ⟨v.1.2.2.1,v.1.2.2.2.1,v.2.1.1,v.2.1.2.1,v.2.2.1.1,v.2.2.2.1.1,v.2.2.2.2.1.1,v.2.2.2.2.2.1,v.2.2.2.2.2.2.1,v.2.2.2.2.2.2.2.1.1.1,v.2.2.2.2.2.2.2.1.1.2.1,v.2.2.2.2.2.2.2.1.1.2.2,v.2.2.2.2.2.2.2.1.2.1.1,v.2.2.2.2.2.2.2.1.2.1.2.1,v.2.2.2.2.2.2.2.1.2.1.2.2,v.2.2.2.2.2.2.2.2.1.1.1,v.2.2.2.2.2.2.2.2.1.1.2.1,v.2.2.2.2.2.2.2.2.1.1.2.2,v.2.2.2.2.2.2.2.2.1.2.1.1,v.2.2.2.2.2.2.2.2.1.2.1.2.1,v.2.2.2.2.2.2.2.2.1.2.1.2.2⟩
 fr := fun x => (((),((),(x.n,(x.i,((),((),((),((),((),((),())))))))))),((x.ri,(x.rs,())),((x.e,()),((x.left,()),((x.right,()),(x.xs,(x.ys,(((x.oi_lo,x.oi_len,x.oi_cap),((x.os_lo,x.os_len,x.os_cap),())),(((x.bi_lo,x.bi_len,x.bi_cap),((x.bs_lo,x.bs_len,x.bs_cap),())),())))))))))
structure i0_q0X where
 ri : List (Int)
 rs : List (Int)
 e : Int
 left : List UInt8
 right : List UInt8
 xs : List (Int)
 ys : List (Int)
 oi_lo : Nat
 oi_len : Nat
 oi_cap : Nat
 os_lo : Nat
 os_len : Nat
 os_cap : Nat
 bi_lo : Nat
 bi_len : Nat
 bi_cap : Nat
 bs_lo : Nat
 bs_len : Nat
 bs_cap : Nat
def i0_q0 : Pt i0_q0X where
 own := []
 t := ⟨[(0,.c (.clo 1000000 [])),(1,.c (.ptr 7 0)),(2000002,.c (.ptr 0 0)),(2000003,.c (.ptr 1 0)),(2000004,.c (.ptr 2 0)),(2000005,.c (.ptr 3 0)),(2000007,.c (.ptr 6 0)),(3000000,.c (.fn 0))],[.st [.arr (.int .u8),.arr (.int .u8)] 1 0,.st [.it .i64] 1 0,.st [.sg] 1 0,.st [.sg] 1 0,.arr (.int .u8) 0,.arr (.int .u8) 0,.st [.slc 4 0 1,.slc 5 0 1] 1 0,.st [.slc 4 0 1,.slc 5 0 1] 1 0]⟩
 to := fun v => ⟨v.2.1.1,v.2.1.2.1,v.2.2.1.1,v.2.2.2.1.1,v.2.2.2.2.1.1,v.2.2.2.2.2.1,v.2.2.2.2.2.2.1,v.2.2.2.2.2.2.2.1.1.1,v.2.2.2.2.2.2.2.1.1.2.1,v.2.2.2.2.2.2.2.1.1.2.2,v.2.2.2.2.2.2.2.1.2.1.1,v.2.2.2.2.2.2.2.1.2.1.2.1,v.2.2.2.2.2.2.2.1.2.1.2.2,v.2.2.2.2.2.2.2.2.1.1.1,v.2.2.2.2.2.2.2.2.1.1.2.1,v.2.2.2.2.2.2.2.2.1.1.2.2,v.2.2.2.2.2.2.2.2.1.2.1.1,v.2.2.2.2.2.2.2.2.1.2.1.2.1,v.2.2.2.2.2.2.2.2.1.2.1.2.2⟩
 fr := fun x => (((),((),((),((),((),((),((),((),())))))))),((x.ri,(x.rs,())),((x.e,()),((x.left,()),((x.right,()),(x.xs,(x.ys,(((x.oi_lo,x.oi_len,x.oi_cap),((x.os_lo,x.os_len,x.os_cap),())),(((x.bi_lo,x.bi_len,x.bi_cap),((x.bs_lo,x.bs_len,x.bs_cap),())),())))))))))
structure i0_z0X where
 ri : List (Int)
 rs : List (Int)
 e : Int
 left : List UInt8
 right : List UInt8
 xs : List (Int)
 ys : List (Int)
 oi_lo : Nat
 oi_len : Nat
 oi_cap : Nat
 os_lo : Nat
 os_len : Nat
 os_cap : Nat
 bi_lo : Nat
 bi_len : Nat
 bi_cap : Nat
 bs_lo : Nat
 bs_len : Nat
 bs_cap : Nat
def i0_z0 : Pt i0_z0X where
 own := []
 t := ⟨[(2000002,.c (.ptr 0 0)),(2000003,.c (.ptr 1 0)),(2000004,.c (.ptr 2 0)),(2000005,.c (.ptr 3 0)),(2000007,.c (.ptr 6 0)),(3000000,.c (.fn 2))],[.st [.arr (.int .u8),.arr (.int .u8)] 1 0,.st [.it .i64] 1 0,.st [.sg] 1 0,.st [.sg] 1 0,.arr (.int .u8) 0,.arr (.int .u8) 0,.st [.slc 4 0 1,.slc 5 0 1] 1 0,.st [.slc 4 0 1,.slc 5 0 1] 1 0]⟩
 to := fun v => ⟨v.2.1.1,v.2.1.2.1,v.2.2.1.1,v.2.2.2.1.1,v.2.2.2.2.1.1,v.2.2.2.2.2.1,v.2.2.2.2.2.2.1,v.2.2.2.2.2.2.2.1.1.1,v.2.2.2.2.2.2.2.1.1.2.1,v.2.2.2.2.2.2.2.1.1.2.2,v.2.2.2.2.2.2.2.1.2.1.1,v.2.2.2.2.2.2.2.1.2.1.2.1,v.2.2.2.2.2.2.2.1.2.1.2.2,v.2.2.2.2.2.2.2.2.1.1.1,v.2.2.2.2.2.2.2.2.1.1.2.1,v.2.2.2.2.2.2.2.2.1.1.2.2,v.2.2.2.2.2.2.2.2.1.2.1.1,v.2.2.2.2.2.2.2.2.1.2.1.2.1,v.2.2.2.2.2.2.2.2.1.2.1.2.2⟩
 fr := fun x => (((),((),((),((),((),((),())))))),((x.ri,(x.rs,())),((x.e,()),((x.left,()),((x.right,()),(x.xs,(x.ys,(((x.oi_lo,x.oi_len,x.oi_cap),((x.os_lo,x.os_len,x.os_cap),())),(((x.bi_lo,x.bi_len,x.bi_cap),((x.bs_lo,x.bs_len,x.bs_cap),())),())))))))))
noncomputable def i0_s0 (x : i0_p0X) : Option (i0_p0X ⊕ (i0_q0X ⊕ i0_z0X)) := bif decide (x.i < x.n) then bif inR x.i x.bi_len then bindO (sb0a { i := x.i,v := x.bi_lo + x.i.toNat,ri := x.ri,rs := x.rs,e := x.e,left := x.left,right := x.right,xs := x.xs,ys := x.ys,oi_lo := x.oi_lo,oi_len := x.oi_len,oi_cap := x.oi_cap,os_lo := x.os_lo,os_len := x.os_len,os_cap := x.os_cap,bi_lo := x.bi_lo,bi_len := x.bi_len,bi_cap := x.bi_cap,bs_lo := x.bs_lo,bs_len := x.bs_len,bs_cap := x.bs_cap }) fun s => sumC s (fun y => some (Sum.inl { n := x.n,i := IntKind.i64.wrap (x.i + 1),ri := y.ri,rs := y.rs,e := y.e,left := y.left,right := y.right,xs := y.xs,ys := y.ys,oi_lo := y.oi_lo,oi_len := y.oi_len,oi_cap := y.oi_cap,os_lo := y.os_lo,os_len := y.os_len,os_cap := y.os_cap,bi_lo := y.bi_lo,bi_len := y.bi_len,bi_cap := y.bi_cap,bs_lo := y.bs_lo,bs_len := y.bs_len,bs_cap := y.bs_cap })) fun z => some (Sum.inr (Sum.inr { ri := z.ri,rs := z.rs,e := z.e,left := z.left,right := z.right,xs := z.xs,ys := z.ys,oi_lo := z.oi_lo,oi_len := z.oi_len,oi_cap := z.oi_cap,os_lo := z.os_lo,os_len := z.os_len,os_cap := z.os_cap,bi_lo := z.bi_lo,bi_len := z.bi_len,bi_cap := z.bi_cap,bs_lo := z.bs_lo,bs_len := z.bs_len,bs_cap := z.bs_cap })) else none
else
 some
  (Sum.inr
   (Sum.inl
    {ri := x.ri,rs := x.rs,e := x.e,left := x.left,right := x.right,xs := x.xs,ys := x.ys,oi_lo := x.oi_lo,oi_len := x.oi_len,oi_cap := x.oi_cap,os_lo := x.os_lo,
     os_len := x.os_len,os_cap := x.os_cap,bi_lo := x.bi_lo,bi_len := x.bi_len,bi_cap := x.bi_cap,bs_lo := x.bs_lo,bs_len := x.bs_len,bs_cap := x.bs_cap }))
theorem i0_s0_eq (x : i0_p0X) : exec EI0_1 39 (C50.bodyAt 0) 1 (i0_p0.R x) (i0_p0.H x) (roundK2 0 i0_p0 (.exit 0) i0_q0 .ret i0_z0) = i0_s0 x := by kernel_rfl
noncomputable def i0_l0 : LoopS := mkLoop2 0 i0_p0 (.exit 0) i0_q0 .ret i0_z0 i0_s0
theorem ti0_l0 : topL (C50.bodyAt 0) 1 = [] := by kernel_rfl
theorem i0_l0_ok {y : YI} (hy : Rnd R0.rA R0.rB R0.rP 49 y) : LoopOkS Try.prog 39 none 0 (C50.bodyAt 0) i0_l0 (some y) := mkLoop2_ok mixed (env_ok ty_ok cl_ok _) (by trivial) (by trivial) (fun _ => rfl) (fun _ => rfl) (fun _ => rfl) (ti0_l0 ▸ AllL.nil) i0_s0_eq (hyk := yi0_1 hy)
noncomputable def EI0_0 : Env := ⟨ty,cfOf cl,lpOf [(0,i0_l0),(1,i0_l1)],some (R0.rP,ub0)⟩
theorem yi0_0 {y : YI} (hy : Rnd R0.rA R0.rB R0.rP 49 y) : YldOk Try.prog 0 EI0_0 (some y) := yld_ok rfl (by kernel_rfl) (by kernel_rfl) ub0_ok hy
structure p0X where
 ri : List (Int)
 rs : List (Int)
 e : Int
 left : List UInt8
 right : List UInt8
 xs : List (Int)
 ys : List (Int)
 oi_lo : Nat
 oi_len : Nat
 oi_cap : Nat
 os_lo : Nat
 os_len : Nat
 os_cap : Nat
 bi_lo : Nat
 bi_len : Nat
 bi_cap : Nat
 bs_lo : Nat
 bs_len : Nat
 bs_cap : Nat
def p0 : Pt p0X where
 own := []
 t := ⟨[(2,.c (.ptr 0 0)),(3,.c (.ptr 1 0)),(4,.c (.ptr 2 0)),(5,.c (.ptr 3 0)),(7,.c (.ptr 6 0)),(32,.c (.clo 50 [⟨7,0,0⟩]))],[.st [.arr (.int .u8),.arr (.int .u8)] 1 0,.st [.it .i64] 1 0,.st [.sg] 1 0,.st [.sg] 1 0,.arr (.int .u8) 0,.arr (.int .u8) 0,.st [.slc 4 0 1,.slc 5 0 1] 1 0,.st [.slc 4 0 1,.slc 5 0 1] 1 0]⟩
 to := fun v => ⟨v.2.1.1,v.2.1.2.1,v.2.2.1.1,v.2.2.2.1.1,v.2.2.2.2.1.1,v.2.2.2.2.2.1,v.2.2.2.2.2.2.1,v.2.2.2.2.2.2.2.1.1.1,v.2.2.2.2.2.2.2.1.1.2.1,v.2.2.2.2.2.2.2.1.1.2.2,v.2.2.2.2.2.2.2.1.2.1.1,v.2.2.2.2.2.2.2.1.2.1.2.1,v.2.2.2.2.2.2.2.1.2.1.2.2,v.2.2.2.2.2.2.2.2.1.1.1,v.2.2.2.2.2.2.2.2.1.1.2.1,v.2.2.2.2.2.2.2.2.1.1.2.2,v.2.2.2.2.2.2.2.2.1.2.1.1,v.2.2.2.2.2.2.2.2.1.2.1.2.1,v.2.2.2.2.2.2.2.2.1.2.1.2.2⟩
 fr := fun x => (((),((),((),((),((),((),())))))),((x.ri,(x.rs,())),((x.e,()),((x.left,()),((x.right,()),(x.xs,(x.ys,(((x.oi_lo,x.oi_len,x.oi_cap),((x.os_lo,x.os_len,x.os_cap),())),(((x.bi_lo,x.bi_len,x.bi_cap),((x.bs_lo,x.bs_len,x.bs_cap),())),())))))))))
structure q0X where
 ri : List (Int)
 rs : List (Int)
 e : Int
 left : List UInt8
 right : List UInt8
 xs : List (Int)
 ys : List (Int)
 oi_lo : Nat
 oi_len : Nat
 oi_cap : Nat
 os_lo : Nat
 os_len : Nat
 os_cap : Nat
 bi_lo : Nat
 bi_len : Nat
 bi_cap : Nat
 bs_lo : Nat
 bs_len : Nat
 bs_cap : Nat
def q0 : Pt q0X where
 own := []
 t := ⟨[(2,.c (.ptr 0 0)),(3,.c (.ptr 1 0)),(4,.c (.ptr 2 0)),(5,.c (.ptr 3 0)),(7,.c (.ptr 6 0))],[.st [.arr (.int .u8),.arr (.int .u8)] 1 0,.st [.it .i64] 1 0,.st [.sg] 1 0,.st [.sg] 1 0,.arr (.int .u8) 0,.arr (.int .u8) 0,.st [.slc 4 0 1,.slc 5 0 1] 1 0,.st [.slc 4 0 1,.slc 5 0 1] 1 0]⟩
 to := fun v => ⟨v.2.1.1,v.2.1.2.1,v.2.2.1.1,v.2.2.2.1.1,v.2.2.2.2.1.1,v.2.2.2.2.2.1,v.2.2.2.2.2.2.1,v.2.2.2.2.2.2.2.1.1.1,v.2.2.2.2.2.2.2.1.1.2.1,v.2.2.2.2.2.2.2.1.1.2.2,v.2.2.2.2.2.2.2.1.2.1.1,v.2.2.2.2.2.2.2.1.2.1.2.1,v.2.2.2.2.2.2.2.1.2.1.2.2,v.2.2.2.2.2.2.2.2.1.1.1,v.2.2.2.2.2.2.2.2.1.1.2.1,v.2.2.2.2.2.2.2.2.1.1.2.2,v.2.2.2.2.2.2.2.2.1.2.1.1,v.2.2.2.2.2.2.2.2.1.2.1.2.1,v.2.2.2.2.2.2.2.2.1.2.1.2.2⟩
 fr := fun x => (((),((),((),((),((),()))))),((x.ri,(x.rs,())),((x.e,()),((x.left,()),((x.right,()),(x.xs,(x.ys,(((x.oi_lo,x.oi_len,x.oi_cap),((x.os_lo,x.os_len,x.os_cap),())),(((x.bi_lo,x.bi_len,x.bi_cap),((x.bs_lo,x.bs_len,x.bs_cap),())),())))))))))
structure z0X where
 ri : List (Int)
 rs : List (Int)
 e : Int
 left : List UInt8
 right : List UInt8
 xs : List (Int)
 ys : List (Int)
 oi_lo : Nat
 oi_len : Nat
 oi_cap : Nat
 os_lo : Nat
 os_len : Nat
 os_cap : Nat
 bi_lo : Nat
 bi_len : Nat
 bi_cap : Nat
 bs_lo : Nat
 bs_len : Nat
 bs_cap : Nat
def z0 : Pt z0X where
 own := []
 t := ⟨[(2,.c (.ptr 0 0)),(3,.c (.ptr 1 0)),(4,.c (.ptr 2 0)),(5,.c (.ptr 3 0)),(7,.c (.ptr 6 0))],[.st [.arr (.int .u8),.arr (.int .u8)] 1 0,.st [.it .i64] 1 0,.st [.sg] 1 0,.st [.sg] 1 0,.arr (.int .u8) 0,.arr (.int .u8) 0,.st [.slc 4 0 1,.slc 5 0 1] 1 0,.st [.slc 4 0 1,.slc 5 0 1] 1 0]⟩
 to := fun v => ⟨v.2.1.1,v.2.1.2.1,v.2.2.1.1,v.2.2.2.1.1,v.2.2.2.2.1.1,v.2.2.2.2.2.1,v.2.2.2.2.2.2.1,v.2.2.2.2.2.2.2.1.1.1,v.2.2.2.2.2.2.2.1.1.2.1,v.2.2.2.2.2.2.2.1.1.2.2,v.2.2.2.2.2.2.2.1.2.1.1,v.2.2.2.2.2.2.2.1.2.1.2.1,v.2.2.2.2.2.2.2.1.2.1.2.2,v.2.2.2.2.2.2.2.2.1.1.1,v.2.2.2.2.2.2.2.2.1.1.2.1,v.2.2.2.2.2.2.2.2.1.1.2.2,v.2.2.2.2.2.2.2.2.1.2.1.1,v.2.2.2.2.2.2.2.2.1.2.1.2.1,v.2.2.2.2.2.2.2.2.1.2.1.2.2⟩
 fr := fun x => (((),((),((),((),((),()))))),((x.ri,(x.rs,())),((x.e,()),((x.left,()),((x.right,()),(x.xs,(x.ys,(((x.oi_lo,x.oi_len,x.oi_cap),((x.os_lo,x.os_len,x.os_cap),())),(((x.bi_lo,x.bi_len,x.bi_cap),((x.bs_lo,x.bs_len,x.bs_cap),())),())))))))))
noncomputable def s0 (x : p0X) : Option (q0X ⊕ z0X) := bindO (iter i0_s0 { n := (↑x.bi_len : Int),i := 0,ri := x.ri,rs := x.rs,e := x.e,left := x.left,right := x.right,xs := x.xs,ys := x.ys,oi_lo := x.oi_lo,oi_len := x.oi_len,oi_cap := x.oi_cap,os_lo := x.os_lo,os_len := x.os_len,os_cap := x.os_cap,bi_lo := x.bi_lo,bi_len := x.bi_len,bi_cap := x.bi_cap,bs_lo := x.bs_lo,bs_len := x.bs_len,bs_cap := x.bs_cap }) fun s => sumC s (fun y => bindO (iter i0_s1 { n2 := (↑y.bs_len : Int),i2 := 0,ri := y.ri,rs := y.rs,e := y.e,left := y.left,right := y.right,xs := y.xs,ys := y.ys,oi_lo := y.oi_lo,oi_len := y.oi_len,oi_cap := y.oi_cap,os_lo := y.os_lo,os_len := y.os_len,os_cap := y.os_cap,bi_lo := y.bi_lo,bi_len := y.bi_len,bi_cap := y.bi_cap,bs_lo := y.bs_lo,bs_len := y.bs_len,bs_cap := y.bs_cap }) fun s => sumC s (fun y => some (Sum.inl { ri := y.ri,rs := y.rs,e := y.e,left := y.left,right := y.right,xs := y.xs,ys := y.ys,oi_lo := y.oi_lo,oi_len := y.oi_len,oi_cap := y.oi_cap,os_lo := y.os_lo,os_len := y.os_len,os_cap := y.os_cap,bi_lo := y.bi_lo,bi_len := y.bi_len,bi_cap := y.bi_cap,bs_lo := y.bs_lo,bs_len := y.bs_len,bs_cap := y.bs_cap })) fun z => some (Sum.inr { ri := z.ri,rs := z.rs,e := z.e,left := z.left,right := z.right,xs := z.xs,ys := z.ys,oi_lo := z.oi_lo,oi_len := z.oi_len,oi_cap := z.oi_cap,os_lo := z.os_lo,os_len := z.os_len,os_cap := z.os_cap,bi_lo := z.bi_lo,bi_len := z.bi_len,bi_cap := z.bi_cap,bs_lo := z.bs_lo,bs_len := z.bs_len,bs_cap := z.bs_cap })) fun z => some (Sum.inr { ri := z.ri,rs := z.rs,e := z.e,left := z.left,right := z.right,xs := z.xs,ys := z.ys,oi_lo := z.oi_lo,oi_len := z.oi_len,oi_cap := z.oi_cap,os_lo := z.os_lo,os_len := z.os_len,os_cap := z.os_cap,bi_lo := z.bi_lo,bi_len := z.bi_len,bi_cap := z.bi_cap,bs_lo := z.bs_lo,bs_len := z.bs_len,bs_cap := z.bs_cap })
theorem s0_eq (x : p0X) : rngRun EI0_0 39 C50 50 R0.rF (p0.R x) (p0.H x) (leaveK (endK2 0 q0 .ret z0)) = s0 x := by kernel_rfl
noncomputable def l0 : LoopS := mkUnit2 0 p0 q0 .ret z0 s0
theorem ti0 : topL C50 0 = [(0,C50.bodyAt 0),(1,C50.bodyAt 1)] := by kernel_rfl
theorem l0_ok : RngOkS Try.prog 49 0 R0.rF R0.rP R0.rA R0.rB l0 := mkRng2_ok mixed (env_ok ty_ok cl_ok _) (fun hy => yi0_0 hy) s50 (by kernel_rfl) (fun hy => ti0 ▸ (AllL.cons rfl (i0_l0_ok hy) (AllL.cons rfl (i0_l1_ok hy) AllL.nil))) (fun _ => rfl) (fun _ => rfl) (fun _ => rfl) s0_eq
noncomputable def E0 : Env := ⟨ty,cfOf cl,lpOf [(0,l0)],none⟩
theorem ur : rngs C27 0 = [(0,R0)] := by kernel_rfl
noncomputable def m (x : gX) : Option fY := bif decide ((↑x.s.length : Int) > 16385) then some ([],[],3)
else
 bindO (M47.m { s := x.s,sep := [124] }) fun y =>
  bif !y.snd.snd then some ([],[],4)
  else
   bif
     decide (0 ≤ (↑y.fst.length : Int)) && decide ((↑y.fst.length : Int) ≤ (↑y.fst.length : Int)) && decide ((↑y.fst.length : Int) * (↑1 : Int) ≤ 281474976710656) &&
      decide ((↑y.fst.length : Int) ≤ 9223372036854775807) then
    bif
      decide (0 ≤ (↑y.snd.fst.length : Int)) && decide ((↑y.snd.fst.length : Int) ≤ (↑y.snd.fst.length : Int)) &&
        decide ((↑y.snd.fst.length : Int) * (↑1 : Int) ≤ 281474976710656) &&
       decide ((↑y.snd.fst.length : Int) ≤ 9223372036854775807) then
     bindO
      (M36o.m
       {i_lo := 0,i_len := (↑y.fst.length : Int).toNat,i_cap := (↑y.fst.length : Int).toNat,s_lo := 0,s_len := (↑y.snd.fst.length : Int).toNat,
        s_cap := (↑y.snd.fst.length : Int).toNat,xs := List.replicate (↑y.fst.length : Int).toNat (0 : Int),ys := List.replicate (↑y.snd.fst.length : Int).toNat (0 : Int) })
      fun y_1 =>
      bindO
       (s0
        {ri := [],rs := [],e := 0,left := y.fst,right := y.snd.fst,xs := y_1.fst,ys := y_1.snd.fst,oi_lo := 0,oi_len := (↑y.fst.length : Int).toNat,
         oi_cap := (↑y.fst.length : Int).toNat,os_lo := 0,os_len := (↑y.snd.fst.length : Int).toNat,os_cap := (↑y.snd.fst.length : Int).toNat,bi_lo := y_1.snd.snd.fst,
         bi_len := y_1.snd.snd.snd.fst,bi_cap := y_1.snd.snd.snd.snd.fst,bs_lo := y_1.snd.snd.snd.snd.snd.fst,bs_len := y_1.snd.snd.snd.snd.snd.snd.fst,
         bs_cap := y_1.snd.snd.snd.snd.snd.snd.snd })
       fun s =>
       sumC s
        (fun y =>
         bif leB (y.oi_lo + y.oi_len) y.xs.length && (leB (y.os_lo + y.os_len) y.ys.length && true) && true && true && true then
          some (List.take y.oi_len (List.drop y.oi_lo y.xs),List.take y.os_len (List.drop y.os_lo y.ys),0)
         else none)
        fun z => some (z.ri,z.rs,z.e)
    else none
   else none
theorem m_eq (x : gX) : exec E0 49 C27 0 (initS 0 (g.A x)) (g.H x) (finish 0 ty [.cell 2 29,.cell 3 32] f) = m x := by kernel_rfl
theorem tl : topL C27 0 = [] := by kernel_rfl
theorem known : Known Try.prog 27 g f m :=
 mk_known mixed (env_ok ty_ok cl_ok _) s27 rfl rfl tl AllL.nil (fun _ _ => ⟨rfl,rfl⟩) (fun _ _ => ⟨rfl,rfl⟩) m_eq (hg := RgOk.of rfl (ur ▸ (AllR.cons rfl rfl l0_ok AllR.nil)))
noncomputable def con : Con := conT g f m default
theorem con_ok : ConOk Try.prog 27 con := conT_ok known (fun _ => rfl) rfl
end M27
namespace M31
structure gX where
 s : List UInt8
def g : Sg gX where
 vs := [.c (.sg)]
 h := []
 to := fun a b => ⟨a.1⟩
 fa := fun x => (x.s,())
 fh := fun x => ()
abbrev fY := List (Int) × List (Int)
def f : Ft fY where
 ord := none
 sh := .agg [.arr (.int .u8),.arr (.int .u8)]
 h := []
 to := fun a b => (a.1,a.2.1)
 fv := fun y => (y.1,(y.2,()))
 fh := fun y => ()
noncomputable def cl : List (FuncId × Con) := [(27,M27.con)]
theorem cl_ok : allCon Try.prog cl := ⟨M27.con_ok,trivial⟩
noncomputable def E0 : Env := ⟨ty,cfOf cl,fun _ => none,none⟩
noncomputable def m (x : gX) : Option fY := bindO (M27.m { s := x.s }) fun y => some (y.fst,y.snd.fst)
theorem m_eq (x : gX) : exec E0 11 C31 0 (initS 0 (g.A x)) (g.H x) (finish 0 ty [.cell 2 29] f) = m x := by kernel_rfl
theorem tl : topL C31 0 = [] := by kernel_rfl
theorem known : Known Try.prog 31 g f m :=
 mk_known mixed (env_ok ty_ok cl_ok _) s31 rfl rfl tl AllL.nil (fun _ _ => ⟨rfl,rfl⟩) (fun _ _ => ⟨rfl,rfl⟩) m_eq
noncomputable def con : Con := conT g f m default
theorem con_ok : ConOk Try.prog 31 con := conT_ok known (fun _ => rfl) rfl
end M31
end Go.Proofs.Ytnmlmdlhhphcoaa
namespace Go.Proofs.Ytnmlmdlhhphcoaa
open Go.Abs
set_option maxRecDepth 100000
namespace M43
structure gX where
 i : Int
 pi : List (Int)
 ps : List (Int)
def g : Sg gX where
 vs := [.c (.it .i64),.c (.ptr 0 0)]
 h := [.st [.arr (.int .u8),.arr (.int .u8)] 1 0]
 to := fun a b => ⟨a.1,b.1.1,b.1.2.1⟩
 fa := fun x => (x.i,((),()))
 fh := fun x => ((x.pi,(x.ps,())),())
abbrev fY := Bool × List (Int) × List (Int)
def f : Ft fY where
 ord := none
 sh := .c (.bo)
 h := [.st [.arr (.int .u8),.arr (.int .u8)] 1 0]
 to := fun a b => (a,b.1.1,b.1.2.1)
 fv := fun y => y.1
 fh := fun y => ((y.2.1,(y.2.2,())),())
def cl : List (FuncId × Con) := []
theorem cl_ok : allCon Try.prog cl := trivial
def E0 : Env := ⟨ty,cfOf cl,fun _ => none,none⟩
def m (x : gX) : Option fY := some (bif decide (x.i < 0) then true else decide (x.i ≥ IntKind.i64.wrap ((↑x.pi.length : Int) + (↑x.ps.length : Int))),x.pi,x.ps)
theorem m_eq (x : gX) : exec E0 17 C43 0 (initS 0 (g.A x)) (g.H x) (finish 1 ty [.tmp 3] f) = m x := by kernel_rfl
theorem tl : topL C43 0 = [] := by kernel_rfl
theorem known : Known Try.prog 43 g f m :=
 mk_known mixed (env_ok ty_ok cl_ok _) s43 rfl rfl tl AllL.nil (fun _ _ => ⟨rfl,rfl⟩) (fun _ _ => ⟨rfl,rfl⟩) m_eq
def con : Con := conR g [.arg 1 0] f m default
theorem con_ok : ConOk Try.prog 43 con := conR_ok known (fun _ => rfl) (fun _ _ h => by unfold m at h; cases h; rfl)
end M43
namespace M51
structure gX where
 s : List (Int)
 pi : List (Int)
 ps : List (Int)
def g : Sg gX where
 vs := [.c (.arr (.int .i64)),.c (.clo 43 [⟨0,0,0⟩])]
 h := [.st [.arr (.int .u8),.arr (.int .u8)] 1 0]
 to := fun a b => ⟨a.1,b.1.1,b.1.2.1⟩
 fa := fun x => (x.s,((),()))
 fh := fun x => ((x.pi,(x.ps,())),())
abbrev fY := Int × List (Int) × List (Int)
def f : Ft fY where
 ord := none
 sh := .c (.it .i64)
 h := [.st [.arr (.int .u8),.arr (.int .u8)] 1 0]
 to := fun a b => (a,b.1.1,b.1.2.1)
 fv := fun y => y.1
 fh := fun y => ((y.2.1,(y.2.2,())),())
def cl : List (FuncId × Con) := [(43,M43.con)]
theorem cl_ok : allCon Try.prog cl := ⟨M43.con_ok,trivial⟩
def E1 : Env := ⟨ty,cfOf cl,fun _ => none,none⟩
structure p0X where
 s : List (Int)
 n : Int
 i : Int
 pi : List (Int)
 ps : List (Int)
def p0 : Pt p0X where
 own := []
 t := ⟨[(0,.c (.arr (.int .i64))),(1,.c (.clo 43 [⟨0,0,0⟩])),(7,.c (.it .i64)),(8,.c (.it .i64))],[.st [.arr (.int .u8),.arr (.int .u8)] 1 0]⟩
 to := fun v => ⟨v.1.1,v.1.2.2.1,v.1.2.2.2.1,v.2.1.1,v.2.1.2.1⟩
 fr := fun x => ((x.s,((),(x.n,(x.i,())))),((x.pi,(x.ps,())),()))
structure q0X where
 pi : List (Int)
 ps : List (Int)
def q0 : Pt q0X where
 own := []
 t := ⟨[],[.st [.arr (.int .u8),.arr (.int .u8)] 1 0]⟩
 to := fun v => ⟨v.2.1.1,v.2.1.2.1⟩
 fr := fun x => ((),((x.pi,(x.ps,())),()))
structure z0X where
 r : Int
 pi : List (Int)
 ps : List (Int)
def z0 : Pt z0X where
 own := []
 t := ⟨[(4,.c (.it .i64))],[.st [.arr (.int .u8),.arr (.int .u8)] 1 0]⟩
 to := fun v => ⟨v.1.1,v.2.1.1,v.2.1.2.1⟩
 fr := fun x => ((x.r,()),((x.pi,(x.ps,())),()))
def s0 (x : p0X) : Option (p0X ⊕ (q0X ⊕ z0X)) := bif decide (x.i < x.n) then bif inR x.i x.s.length then bindO (M43.m { i := x.s[x.i.toNat]?.getD 0,pi := x.pi,ps := x.ps }) fun y => bif y.fst then some (Sum.inr (Sum.inr { r := x.i,pi := x.pi,ps := x.ps })) else some (Sum.inl { s := x.s,n := x.n,i := IntKind.i64.wrap (x.i + 1),pi := x.pi,ps := x.ps }) else none
else some (Sum.inr (Sum.inl { pi := x.pi,ps := x.ps }))
theorem s0_eq (x : p0X) : exec E1 19 (C51.bodyAt 0) 1 (p0.R x) (p0.H x) (roundK2 1 p0 (.exit 0) q0 .ret z0) = s0 x := by kernel_rfl
noncomputable def l0 : LoopS := mkLoop2 1 p0 (.exit 0) q0 .ret z0 s0
theorem tl0 : topL (C51.bodyAt 0) 1 = [] := by kernel_rfl
theorem l0_ok  : LoopOkS Try.prog 19 none 1 (C51.bodyAt 0) l0 := mkLoop2_ok mixed (env_ok ty_ok cl_ok _) (by trivial) (by trivial) (fun _ => rfl) (fun _ => rfl) (fun _ => rfl) (tl0 ▸ AllL.nil) s0_eq
noncomputable def E0 : Env := ⟨ty,cfOf cl,lpOf [(0,l0)],none⟩
noncomputable def m (x : gX) : Option fY := bindO (iter s0 { s := x.s,n := (↑x.s.length : Int),i := 0,pi := x.pi,ps := x.ps }) fun s => sumC s (fun y => some (-1,y.pi,y.ps)) fun z => some (z.r,z.pi,z.ps)
theorem m_eq (x : gX) : exec E0 19 C51 0 (initS 0 (g.A x)) (g.H x) (finish 1 ty [.tmp 4] f) = m x := by kernel_rfl
theorem tl : topL C51 0 = [(0,C51.bodyAt 0)] := by kernel_rfl
theorem known : Known Try.prog 51 g f m :=
 mk_known mixed (env_ok ty_ok cl_ok _) s51 rfl rfl tl (AllL.cons rfl l0_ok AllL.nil) (fun _ _ => ⟨rfl,rfl⟩) (fun _ _ => ⟨rfl,rfl⟩) m_eq
theorem hh {x : gX} {y : fY} (h : m x = some y) : f.H y = g.H x := by
 unfold m at h
 obtain ⟨r,h1,h2⟩ := bindO_some h
 have h3 := iter_keep (fun z => z.pi = x.pi ∧ z.ps = x.ps) (fun r => match r with | .inl y => y.pi = x.pi ∧ y.ps = x.ps | .inr z => z.pi = x.pi ∧ z.ps = x.ps) (fun z r hz hr => by
  unfold s0 at hr
  rcases cond_some hr with ⟨_,hr⟩ | ⟨_,hr⟩
  ·rcases cond_some hr with ⟨_,hr⟩ | ⟨_,hr⟩
   ·obtain ⟨b,_,hr⟩ := bindO_some hr
    rcases cond_some hr with ⟨_,hr⟩ | ⟨_,hr⟩ <;> (cases hr; exact hz)
   ·cases hr
  ·cases hr; exact hz) ⟨rfl,rfl⟩ h1
 rcases sumC_some h2 with ⟨z,rfl,h4⟩ | ⟨z,rfl,h4⟩ <;> (cases h4; show [SO.st [.arr (.int .u8) z.pi none,.arr (.int .u8) z.ps none] 1 0] = [SO.st [.arr (.int .u8) x.pi none,.arr (.int .u8) x.ps none] 1 0]; rw [h3.1,h3.2])
noncomputable def con : Con := conR g [.arg 1 0] f m default
theorem con_ok : ConOk Try.prog 51 con := conR_ok known (fun _ => rfl) (fun _ _ h => by exact hh h)
end M51
namespace M42
structure gX where
 s : List (Int)
 pi : List (Int)
 ps : List (Int)
def g : Sg gX where
 vs := [.c (.arr (.int .i64)),.c (.clo 43 [⟨0,0,0⟩])]
 h := [.st [.arr (.int .u8),.arr (.int .u8)] 1 0]
 to := fun a b => ⟨a.1,b.1.1,b.1.2.1⟩
 fa := fun x => (x.s,((),()))
 fh := fun x => ((x.pi,(x.ps,())),())
abbrev fY := Bool × List (Int) × List (Int)
def f : Ft fY where
 ord := none
 sh := .c (.bo)
 h := [.st [.arr (.int .u8),.arr (.int .u8)] 1 0]
 to := fun a b => (a,b.1.1,b.1.2.1)
 fv := fun y => y.1
 fh := fun y => ((y.2.1,(y.2.2,())),())
noncomputable def cl : List (FuncId × Con) := [(51,M51.con)]
theorem cl_ok : allCon Try.prog cl := ⟨M51.con_ok,trivial⟩
noncomputable def E0 : Env := ⟨ty,cfOf cl,fun _ => none,none⟩
noncomputable def m (x : gX) : Option fY := bindO (M51.m { s := x.s,pi := x.pi,ps := x.ps }) fun y => some (decide (y.fst ≥ 0),x.pi,x.ps)
theorem m_eq (x : gX) : exec E0 9 C42 0 (initS 0 (g.A x)) (g.H x) (finish 1 ty [.tmp 4] f) = m x := by kernel_rfl
theorem tl : topL C42 0 = [] := by kernel_rfl
theorem known : Known Try.prog 42 g f m :=
 mk_known mixed (env_ok ty_ok cl_ok _) s42 rfl rfl tl AllL.nil (fun _ _ => ⟨rfl,rfl⟩) (fun _ _ => ⟨rfl,rfl⟩) m_eq
theorem hh {x : gX} {y : fY} (h : m x = some y) : f.H y = g.H x := by
 unfold m at h
 obtain ⟨r,h1,h2⟩ := bindO_some h
 cases h2; rfl
noncomputable def con : Con := conR g [.arg 1 0] f m default
theorem con_ok : ConOk Try.prog 42 con := conR_ok known (fun _ => rfl) (fun _ _ h => by exact hh h)
end M42
namespace M23
structure gX where
 i : List (Int)
 s : List (Int)
 l : List (Int)
def g : Sg gX where
 vs := [.agg [.arr (.int .u8),.arr (.int .u8)],.c (.arr (.int .i64))]
 h := []
 to := fun a b => ⟨a.1.1,a.1.2.1,a.2.1⟩
 fa := fun x => ((x.i,(x.s,())),(x.l,()))
 fh := fun x => ()
abbrev fY := List (Int) × List (Int) × Int
def f : Ft fY where
 ord := none
 sh := .tup [.inr [.arr (.int .u8),.arr (.int .u8)],.inl (.it .i64)]
 h := []
 to := fun a b => (a.1.1,a.1.2.1,a.2.1)
 fv := fun y => ((y.1,(y.2.1,())),(y.2.2,()))
 fh := fun y => ()
noncomputable def cl : List (FuncId × Con) := [(29,M29.con),(42,M42.con),(34,M34.con)]
theorem cl_ok : allCon Try.prog cl := ⟨M29.con_ok,M42.con_ok,M34.con_ok,trivial⟩
noncomputable def E1 : Env := ⟨ty,cfOf cl,fun _ => none,none⟩
structure p0X where
 l : List (Int)
 n : Int
 i : Int
 pi : List (Int)
 ps : List (Int)
 xs : List (Int)
 ys : List (Int)
 oi_lo : Nat
 oi_len : Nat
 oi_cap : Nat
 os_lo : Nat
 os_len : Nat
 os_cap : Nat
def p0 : Pt p0X where
 own := []
 t := ⟨[(2,.c (.ptr 0 0)),(4,.c (.ptr 1 0)),(7,.c (.ptr 4 0)),(22,.c (.arr (.int .i64))),(23,.c (.it .i64)),(24,.c (.it .i64))],[.st [.arr (.int .u8),.arr (.int .u8)] 1 0,.st [.junk,.junk] 1 0,.arr (.int .u8) 0,.arr (.int .u8) 0,.st [.slc 2 0 1,.slc 3 0 1] 1 0]⟩
 to := fun v => ⟨v.1.2.2.2.1,v.1.2.2.2.2.1,v.1.2.2.2.2.2.1,v.2.1.1,v.2.1.2.1,v.2.2.2.1,v.2.2.2.2.1,v.2.2.2.2.2.1.1.1,v.2.2.2.2.2.1.1.2.1,v.2.2.2.2.2.1.1.2.2,v.2.2.2.2.2.1.2.1.1,v.2.2.2.2.2.1.2.1.2.1,v.2.2.2.2.2.1.2.1.2.2⟩
 fr := fun x => (((),((),((),(x.l,(x.n,(x.i,())))))),((x.pi,(x.ps,())),(((),((),())),(x.xs,(x.ys,(((x.oi_lo,x.oi_len,x.oi_cap),((x.os_lo,x.os_len,x.os_cap),())),()))))))
structure q0X where
 pi : List (Int)
 ps : List (Int)
 xs : List (Int)
 ys : List (Int)
 oi_lo : Nat
 oi_len : Nat
 oi_cap : Nat
 os_lo : Nat
 os_len : Nat
 os_cap : Nat
def q0 : Pt q0X where
 own := []
 t := ⟨[(4,.c (.ptr 1 0)),(7,.c (.ptr 4 0))],[.st [.arr (.int .u8),.arr (.int .u8)] 1 0,.st [.junk,.junk] 1 0,.arr (.int .u8) 0,.arr (.int .u8) 0,.st [.slc 2 0 1,.slc 3 0 1] 1 0]⟩
 to := fun v => ⟨v.2.1.1,v.2.1.2.1,v.2.2.2.1,v.2.2.2.2.1,v.2.2.2.2.2.1.1.1,v.2.2.2.2.2.1.1.2.1,v.2.2.2.2.2.1.1.2.2,v.2.2.2.2.2.1.2.1.1,v.2.2.2.2.2.1.2.1.2.1,v.2.2.2.2.2.1.2.1.2.2⟩
 fr := fun x => (((),((),())),((x.pi,(x.ps,())),(((),((),())),(x.xs,(x.ys,(((x.oi_lo,x.oi_len,x.oi_cap),((x.os_lo,x.os_len,x.os_cap),())),()))))))
noncomputable def s0 (x : p0X) : Option (p0X ⊕ q0X) := bif decide (x.i < x.n) then bif inR x.i x.l.length then bif decide (x.l[x.i.toNat]?.getD 0 < (↑x.pi.length : Int)) then bif inR (x.l[x.i.toNat]?.getD 0) x.oi_len then bif decide (x.oi_lo + Int.toNat (x.l[x.i.toNat]?.getD 0) < x.xs.length) then some (Sum.inl { l := x.l,n := x.n,i := IntKind.i64.wrap (x.i + 1),pi := x.pi,ps := x.ps,xs := x.xs.set (x.oi_lo + Int.toNat (x.l[x.i.toNat]?.getD 0)) 2,ys := x.ys,oi_lo := x.oi_lo,oi_len := x.oi_len,oi_cap := x.oi_cap,os_lo := x.os_lo,os_len := x.os_len,os_cap := x.os_cap }) else none else none else bif inR (IntKind.i64.wrap (x.l[x.i.toNat]?.getD 0 - (↑x.pi.length : Int))) x.os_len then bif decide (x.os_lo + (IntKind.i64.wrap (x.l[x.i.toNat]?.getD 0 - (↑x.pi.length : Int))).toNat < x.ys.length) then some (Sum.inl { l := x.l,n := x.n,i := IntKind.i64.wrap (x.i + 1),pi := x.pi,ps := x.ps,xs := x.xs,ys := x.ys.set (x.os_lo + (IntKind.i64.wrap (x.l[x.i.toNat]?.getD 0 - (↑x.pi.length : Int))).toNat) 2,oi_lo := x.oi_lo,oi_len := x.oi_len,oi_cap := x.oi_cap,os_lo := x.os_lo,os_len := x.os_len,os_cap := x.os_cap }) else none else none else none
else
 some
  (Sum.inr { pi := x.pi,ps := x.ps,xs := x.xs,ys := x.ys,oi_lo := x.oi_lo,oi_len := x.oi_len,oi_cap := x.oi_cap,os_lo := x.os_lo,os_len := x.os_len,os_cap := x.os_cap })
theorem s0_eq (x : p0X) : exec E1 47 (C23.bodyAt 0) 1 (p0.R x) (p0.H x) (roundK 0 p0 (.exit 0) q0) = s0 x := by kernel_rfl
noncomputable def l0 : LoopS := mkLoop 0 p0 (.exit 0) q0 s0
theorem tl0 : topL (C23.bodyAt 0) 1 = [] := by kernel_rfl
theorem l0_ok  : LoopOkS Try.prog 47 none 0 (C23.bodyAt 0) l0 := mkLoop_ok mixed (env_ok ty_ok cl_ok _) (by trivial) (fun _ => rfl) (fun _ => rfl) (tl0 ▸ AllL.nil) s0_eq
noncomputable def E0 : Env := ⟨ty,cfOf cl,lpOf [(0,l0)],none⟩
noncomputable def m (x : gX) : Option fY := bindO (M29.m { i := x.i,s := x.s }) fun y => bif y != 0 then some ([],[],y) else bindO (M42.m { s := x.l,pi := x.i,ps := x.s }) fun y => bif y.fst then some ([],[],1) else bindO (M34.m { i := x.i,s := x.s }) fun y => bindO (iter s0 { l := x.l,n := (↑x.l.length : Int),i := 0,pi := x.i,ps := x.s,xs := y.snd.snd.snd.snd.snd.snd.fst,ys := y.snd.snd.snd.snd.snd.snd.snd,oi_lo := y.fst,oi_len := y.snd.fst,oi_cap := y.snd.snd.fst,os_lo := y.snd.snd.snd.fst,os_len := y.snd.snd.snd.snd.fst,os_cap := y.snd.snd.snd.snd.snd.fst }) fun y => bif leB (y.oi_lo + y.oi_len) y.xs.length && (leB (y.os_lo + y.os_len) y.ys.length && true) && true && true && true then some (List.take y.oi_len (List.drop y.oi_lo y.xs),List.take y.os_len (List.drop y.os_lo y.ys),0) else none
theorem m_eq (x : gX) : exec E0 47 C23 0 (initS 0 (g.A x)) (g.H x) (finish 0 ty [.cell 4 29,.tmp 5] f) = m x := by kernel_rfl
theorem tl : topL C23 0 = [(0,C23.bodyAt 0)] := by kernel_rfl
theorem known : Known Try.prog 23 g f m :=
 mk_known mixed (env_ok ty_ok cl_ok _) s23 rfl rfl tl (AllL.cons rfl l0_ok AllL.nil) (fun _ _ => ⟨rfl,rfl⟩) (fun _ _ => ⟨rfl,rfl⟩) m_eq
noncomputable def con : Con := conT g f m default
theorem con_ok : ConOk Try.prog 23 con := conT_ok known (fun _ => rfl) rfl
end M23
end Go.Proofs.Ytnmlmdlhhphcoaa
namespace Go.Proofs.Ytnmlmdlhhphcoaa
open Go.Abs
set_option maxRecDepth 100000
namespace M22
structure gX where
 i : List (Int)
 s : List (Int)
def g : Sg gX where
 vs := [.agg [.arr (.int .u8),.arr (.int .u8)]]
 h := []
 to := fun a b => ⟨a.1.1,a.1.2.1⟩
 fa := fun x => ((x.i,(x.s,())),())
 fh := fun x => ()
abbrev fY := Int
def f : Ft fY where
 ord := none
 sh := .c (.it .i64)
 h := []
 to := fun a b => (a)
 fv := fun y => y
 fh := fun y => ()
noncomputable def cl : List (FuncId × Con) := [(29,M29.con),(36,M36.con)]
theorem cl_ok : allCon Try.prog cl := ⟨M29.con_ok,M36.con_ok,trivial⟩
def R0 : CC := C22.rngAt 0
noncomputable def EB0_0 : Env := ⟨ty,cfOf cl,fun _ => none,none⟩
structure bp0X where
 v : Int
 n0 : Int
 bi : List (Int)
 bs : List (Int)
def bp0 : Pt bp0X where
 own := []
 t := ⟨[(2,.c (.ptr 1 0)),(11,.c (.ip (.int .u8) 0)),(1000000,.c (.clo 1000000 [])),(1000001,.c (.ptr 2 0)),(2000002,.c (.ptr 1 0))],[.st [.junk,.junk] 1 0,.st [.it .i64] 1 0,.st [.arr (.int .u8),.arr (.int .u8)] 1 0]⟩
 to := fun v => ⟨v.1.2.1,v.2.2.1.1,v.2.2.2.1.1,v.2.2.2.1.2.1⟩
 fr := fun x => (((),(x.v,((),((),((),()))))),(((),((),())),((x.n0,()),((x.bi,(x.bs,())),()))))
structure bq0X where
 n0 : Int
 bi : List (Int)
 bs : List (Int)
def bq0 : Pt bq0X where
 own := []
 t := ⟨[(1000000,.c (.clo 1000000 [])),(1000001,.c (.ptr 2 0)),(2000002,.c (.ptr 1 0))],[.st [.junk,.junk] 1 0,.st [.it .i64] 1 0,.st [.arr (.int .u8),.arr (.int .u8)] 1 0]⟩
 to := fun v => ⟨v.2.2.1.1,v.2.2.2.1.1,v.2.2.2.1.2.1⟩
 fr := fun x => (((),((),((),()))),(((),((),())),((x.n0,()),((x.bi,(x.bs,())),()))))
noncomputable def sb0 (x : bp0X) : Option bq0X := bif x.v != 2 then some { n0 := IntKind.i64.wrap (x.n0 + 1),bi := x.bi,bs := x.bs } else some { n0 := x.n0,bi := x.bi,bs := x.bs }
theorem sb0_eq (x : bp0X) : roundRun EB0_0 19 R0.rA R0.rB (bp0.R x) (bp0.H x) (endK 0 bq0) = sb0 x := by kernel_rfl
noncomputable def ub0 : LoopS := mkUnit 0 bp0 bq0 sb0
theorem ta0 : topL R0.rA 0 = [] := by kernel_rfl
theorem tb0 : topL R0.rB R0.rA.nl = [] := by kernel_rfl
theorem ub0_ok {y : YI} (hy : Rnd R0.rA R0.rB R0.rP 19 y) : BodyOkS Try.prog 19 0 y.assign y.body ub0 := mkBody_ok mixed (env_ok ty_ok cl_ok _) rfl ⟨by kernel_rfl,by kernel_rfl⟩ (fun _ => rfl) (fun _ => rfl) (fun _ => ta0 ▸ AllL.nil) (fun l => tb0 ▸ AllL.nil) sb0_eq hy
noncomputable def EI0_2 : Env := ⟨ty,cfOf cl,fun _ => none,some (R0.rP,ub0)⟩
theorem yi0_2 {y : YI} (hy : Rnd R0.rA R0.rB R0.rP 19 y) : YldOk Try.prog 0 EI0_2 (some y) := yld_ok rfl (by kernel_rfl) (by kernel_rfl) ub0_ok hy
structure i0_p1X where
 n2 : Int
 i2 : Int
 n0 : Int
 bi : List (Int)
 bs : List (Int)
def i0_p1 : Pt i0_p1X where
 own := []
 t := ⟨[(0,.c (.clo 1000000 [])),(1,.c (.ptr 2 0)),(22,.c (.it .i64)),(23,.c (.it .i64)),(2000002,.c (.ptr 1 0)),(3000000,.c (.fn 0))],[.st [.junk,.junk] 1 0,.st [.it .i64] 1 0,.st [.arr (.int .u8),.arr (.int .u8)] 1 0]⟩
 to := fun v => ⟨v.1.2.2.1,v.1.2.2.2.1,v.2.2.1.1,v.2.2.2.1.1,v.2.2.2.1.2.1⟩
 fr := fun x => (((),((),(x.n2,(x.i2,((),((),())))))),(((),((),())),((x.n0,()),((x.bi,(x.bs,())),()))))
structure i0_q1X where
 n0 : Int
 bi : List (Int)
 bs : List (Int)
def i0_q1 : Pt i0_q1X where
 own := []
 t := ⟨[(2000002,.c (.ptr 1 0)),(3000000,.c (.fn 0))],[.st [.junk,.junk] 1 0,.st [.it .i64] 1 0,.st [.arr (.int .u8),.arr (.int .u8)] 1 0]⟩
 to := fun v => ⟨v.2.2.1.1,v.2.2.2.1.1,v.2.2.2.1.2.1⟩
 fr := fun x => (((),((),())),(((),((),())),((x.n0,()),((x.bi,(x.bs,())),()))))
noncomputable def i0_s1 (x : i0_p1X) : Option (i0_p1X ⊕ i0_q1X) := bif decide (x.i2 < x.n2) then bif inR x.i2 x.bs.length then bindO (sb0 { v := x.bs[x.i2.toNat]?.getD 0,n0 := x.n0,bi := x.bi,bs := x.bs }) fun y => some (Sum.inl { n2 := x.n2,i2 := IntKind.i64.wrap (x.i2 + 1),n0 := y.n0,bi := y.bi,bs := y.bs }) else none
else some (Sum.inr { n0 := x.n0,bi := x.bi,bs := x.bs })
theorem i0_s1_eq (x : i0_p1X) : exec EI0_2 39 (C50.bodyAt 1) 2 (i0_p1.R x) (i0_p1.H x) (roundK 0 i0_p1 (.exit 2) i0_q1) = i0_s1 x := by kernel_rfl
noncomputable def i0_l1 : LoopS := mkLoop 0 i0_p1 (.exit 2) i0_q1 i0_s1
theorem ti0_l1 : topL (C50.bodyAt 1) 2 = [] := by kernel_rfl
theorem i0_l1_ok {y : YI} (hy : Rnd R0.rA R0.rB R0.rP 19 y) : LoopOkS Try.prog 39 none 0 (C50.bodyAt 1) i0_l1 (some y) := mkLoop_ok mixed (env_ok ty_ok cl_ok _) (by trivial) (fun _ => rfl) (fun _ => rfl) (ti0_l1 ▸ AllL.nil) i0_s1_eq (hyk := yi0_2 hy)
noncomputable def EI0_1 : Env := ⟨ty,cfOf cl,lpOf [(1,i0_l1)],some (R0.rP,ub0)⟩
theorem yi0_1 {y : YI} (hy : Rnd R0.rA R0.rB R0.rP 19 y) : YldOk Try.prog 0 EI0_1 (some y) := yld_ok rfl (by kernel_rfl) (by kernel_rfl) ub0_ok hy
structure i0_p0X where
 n : Int
 i : Int
 n0 : Int
 bi : List (Int)
 bs : List (Int)
def i0_p0 : Pt i0_p0X where
 own := []
 t := ⟨[(0,.c (.clo 1000000 [])),(1,.c (.ptr 2 0)),(7,.c (.it .i64)),(8,.c (.it .i64)),(2000002,.c (.ptr 1 0)),(3000000,.c (.fn 0))],[.st [.junk,.junk] 1 0,.st [.it .i64] 1 0,.st [.arr (.int .u8),.arr (.int .u8)] 1 0]⟩
 to := fun v => ⟨v.1.2.2.1,v.1.2.2.2.1,v.2.2.1.1,v.2.2.2.1.1,v.2.2.2.1.2.1⟩
 fr := fun x => (((),((),(x.n,(x.i,((),((),())))))),(((),((),())),((x.n0,()),((x.bi,(x.bs,())),()))))
structure i0_q0X where
 n0 : Int
 bi : List (Int)
 bs : List (Int)
def i0_q0 : Pt i0_q0X where
 own := []
 t := ⟨[(0,.c (.clo 1000000 [])),(1,.c (.ptr 2 0)),(2000002,.c (.ptr 1 0)),(3000000,.c (.fn 0))],[.st [.junk,.junk] 1 0,.st [.it .i64] 1 0,.st [.arr (.int .u8),.arr (.int .u8)] 1 0]⟩
 to := fun v => ⟨v.2.2.1.1,v.2.2.2.1.1,v.2.2.2.1.2.1⟩
 fr := fun x => (((),((),((),((),())))),(((),((),())),((x.n0,()),((x.bi,(x.bs,())),()))))
noncomputable def i0_s0 (x : i0_p0X) : Option (i0_p0X ⊕ i0_q0X) := bif decide (x.i < x.n) then bif inR x.i x.bi.length then bindO (sb0 { v := x.bi[x.i.toNat]?.getD 0,n0 := x.n0,bi := x.bi,bs := x.bs }) fun y => some (Sum.inl { n := x.n,i := IntKind.i64.wrap (x.i + 1),n0 := y.n0,bi := y.bi,bs := y.bs }) else none
else some (Sum.inr { n0 := x.n0,bi := x.bi,bs := x.bs })
theorem i0_s0_eq (x : i0_p0X) : exec EI0_1 39 (C50.bodyAt 0) 1 (i0_p0.R x) (i0_p0.H x) (roundK 0 i0_p0 (.exit 0) i0_q0) = i0_s0 x := by kernel_rfl
noncomputable def i0_l0 : LoopS := mkLoop 0 i0_p0 (.exit 0) i0_q0 i0_s0
theorem ti0_l0 : topL (C50.bodyAt 0) 1 = [] := by kernel_rfl
theorem i0_l0_ok {y : YI} (hy : Rnd R0.rA R0.rB R0.rP 19 y) : LoopOkS Try.prog 39 none 0 (C50.bodyAt 0) i0_l0 (some y) := mkLoop_ok mixed (env_ok ty_ok cl_ok _) (by trivial) (fun _ => rfl) (fun _ => rfl) (ti0_l0 ▸ AllL.nil) i0_s0_eq (hyk := yi0_1 hy)
noncomputable def EI0_0 : Env := ⟨ty,cfOf cl,lpOf [(0,i0_l0),(1,i0_l1)],some (R0.rP,ub0)⟩
theorem yi0_0 {y : YI} (hy : Rnd R0.rA R0.rB R0.rP 19 y) : YldOk Try.prog 0 EI0_0 (some y) := yld_ok rfl (by kernel_rfl) (by kernel_rfl) ub0_ok hy
structure p0X where
 n0 : Int
 bi : List (Int)
 bs : List (Int)
def p0 : Pt p0X where
 own := []
 t := ⟨[(2,.c (.ptr 1 0)),(9,.c (.clo 50 [⟨2,0,0⟩]))],[.st [.junk,.junk] 1 0,.st [.it .i64] 1 0,.st [.arr (.int .u8),.arr (.int .u8)] 1 0]⟩
 to := fun v => ⟨v.2.2.1.1,v.2.2.2.1.1,v.2.2.2.1.2.1⟩
 fr := fun x => (((),((),())),(((),((),())),((x.n0,()),((x.bi,(x.bs,())),()))))
structure q0X where
 n0 : Int
 bi : List (Int)
 bs : List (Int)
def q0 : Pt q0X where
 own := []
 t := ⟨[(2,.c (.ptr 1 0))],[.st [.junk,.junk] 1 0,.st [.it .i64] 1 0,.st [.arr (.int .u8),.arr (.int .u8)] 1 0]⟩
 to := fun v => ⟨v.2.2.1.1,v.2.2.2.1.1,v.2.2.2.1.2.1⟩
 fr := fun x => (((),()),(((),((),())),((x.n0,()),((x.bi,(x.bs,())),()))))
noncomputable def s0 (x : p0X) : Option q0X := bindO (iter i0_s0 { n := (↑x.bi.length : Int),i := 0,n0 := x.n0,bi := x.bi,bs := x.bs }) fun y => bindO (iter i0_s1 { n2 := (↑y.bs.length : Int),i2 := 0,n0 := y.n0,bi := y.bi,bs := y.bs }) fun y => some { n0 := y.n0,bi := y.bi,bs := y.bs }
theorem s0_eq (x : p0X) : rngRun EI0_0 39 C50 50 R0.rF (p0.R x) (p0.H x) (leaveK (endK 0 q0)) = s0 x := by kernel_rfl
noncomputable def l0 : LoopS := mkUnit 0 p0 q0 s0
theorem ti0 : topL C50 0 = [(0,C50.bodyAt 0),(1,C50.bodyAt 1)] := by kernel_rfl
theorem l0_ok : RngOkS Try.prog 19 0 R0.rF R0.rP R0.rA R0.rB l0 := mkRng_ok mixed (env_ok ty_ok cl_ok _) (fun hy => yi0_0 hy) s50 (by kernel_rfl) (fun hy => ti0 ▸ (AllL.cons rfl (i0_l0_ok hy) (AllL.cons rfl (i0_l1_ok hy) AllL.nil))) (fun _ => rfl) (fun _ => rfl) s0_eq
noncomputable def E0 : Env := ⟨ty,cfOf cl,lpOf [(0,l0)],none⟩
theorem ur : rngs C22 0 = [(0,R0)] := by kernel_rfl
noncomputable def m (x : gX) : Option fY := bindO (M29.m { i := x.i,s := x.s }) fun y => bif y != 0 then some 0 else bindO (M36.m { i := x.i,s := x.s }) fun y => bindO (s0 { n0 := 0,bi := y.fst,bs := y.snd }) fun y => some y.n0
theorem m_eq (x : gX) : exec E0 19 C22 0 (initS 0 (g.A x)) (g.H x) (finish 0 ty [.cell 2 3] f) = m x := by kernel_rfl
theorem tl : topL C22 0 = [] := by kernel_rfl
theorem known : Known Try.prog 22 g f m :=
 mk_known mixed (env_ok ty_ok cl_ok _) s22 rfl rfl tl AllL.nil (fun _ _ => ⟨rfl,rfl⟩) (fun _ _ => ⟨rfl,rfl⟩) m_eq (hg := RgOk.of rfl (ur ▸ (AllR.cons rfl rfl l0_ok AllR.nil)))
noncomputable def con : Con := conT g f m default
theorem con_ok : ConOk Try.prog 22 con := conT_ok known (fun _ => rfl) rfl
end M22
end Go.Proofs.Ytnmlmdlhhphcoaa
namespace Go.Proofs.Ytnmlmdlhhphcoaa
open Go.Abs
set_option maxRecDepth 100000
namespace M30
structure gX where
 i : List (Int)
 s : List (Int)
def g : Sg gX where
 vs := [.agg [.arr (.int .u8),.arr (.int .u8)]]
 h := []
 to := fun a b => ⟨a.1.1,a.1.2.1⟩
 fa := fun x => ((x.i,(x.s,())),())
 fh := fun x => ()
abbrev fY := (List ((List (Int)) × List (Int))) × Int
def f : Ft fY where
 ord := none
 sh := .tup [.inl (.arr (.pair (.sl (.int .u8)) (.sl (.int .u8)))),.inl (.it .i64)]
 h := []
 to := fun a b => (a.1,a.2.1)
 fv := fun y => (y.1,(y.2,()))
 fh := fun y => ()
noncomputable def cl : List (FuncId × Con) := [(29,M29.con),(22,M22.con),(34,M34.con),(36,M36o.con)]
theorem cl_ok : allCon Try.prog cl := ⟨M29.con_ok,M22.con_ok,M34.con_ok,M36o.con_ok,trivial⟩
def R1 : CC := C30.rngAt 1
noncomputable def EB1_0 : Env := ⟨ty,cfOf cl,fun _ => none,none⟩
structure bp1aX where
 opn : Int
 out_lo : Nat
 out_len : Nat
 out_cap : Nat
 n : Int
 i : Int
 v : Nat
 opn2 : Int
 out_lo2 : Nat
 out_len2 : Nat
 out_cap2 : Nat
 n2 : Int
 i2 : Int
 pi : List (Int)
 ps : List (Int)
 out : List ((List (Int)) × List (Int))
 x_lo : Nat
 x_len : Nat
 x_cap : Nat
 y_lo : Nat
 y_len : Nat
 y_cap : Nat
 out_r : List ((List (Int)) × List (Int))
 nn : Int
 xs : List (Int)
 ys : List (Int)
 left : Int
 bi_lo : Nat
 bi_len : Nat
 bi_cap : Nat
 bs_lo : Nat
 bs_len : Nat
 bs_cap : Nat
def bp1a : Pt bp1aX where
 own := []
 t := ⟨[(1,.c (.ptr 0 0)),(5,.c (.it .i64)),(6,.c (.slc 3 0 2)),(7,.c (.ptr 4 0)),(8,.c (.ptr 7 0)),(32,.c (.it .i64)),(33,.c (.it .i64)),(48,.c (.el 5 0 1 0)),(1000000,.c (.clo 1000000 [])),(1000001,.c (.ptr 8 0)),(2000001,.c (.ptr 0 0)),(2000005,.c (.it .i64)),(2000006,.c (.slc 3 0 2)),(2000007,.c (.ptr 4 0)),(2000008,.c (.ptr 7 0)),(2000032,.c (.it .i64)),(2000033,.c (.it .i64))],[.st [.arr (.int .u8),.arr (.int .u8)] 1 0,.st [.junk] 1 0,.st [.junk] 1 0,.opn (.pair (.sl (.int .u8)) (.sl (.int .u8))) [.slc 5 0 1,.slc 6 0 1] 0,.st [.it .i64] 1 0,.arr (.int .u8) 0,.arr (.int .u8) 0,.st [.it .i64] 1 0,.st [.slc 5 0 1,.slc 6 0 1] 1 0]⟩
 to := fun v => ⟨v.1.2.1,v.1.2.2.1.1,v.1.2.2.1.2.1,v.1.2.2.1.2.2,v.1.2.2.2.2.2.1,v.1.2.2.2.2.2.2.1,v.1.2.2.2.2.2.2.2.1,v.1.2.2.2.2.2.2.2.2.2.2.2.1,v.1.2.2.2.2.2.2.2.2.2.2.2.2.1.1,v.1.2.2.2.2.2.2.2.2.2.2.2.2.1.2.1,v.1.2.2.2.2.2.2.2.2.2.2.2.2.1.2.2,v.1.2.2.2.2.2.2.2.2.2.2.2.2.2.2.2.1,v.1.2.2.2.2.2.2.2.2.2.2.2.2.2.2.2.2.1,v.2.1.1,v.2.1.2.1,v.2.2.2.2.1.1,v.2.2.2.2.1.2.1.1.1,v.2.2.2.2.1.2.1.1.2.1,v.2.2.2.2.1.2.1.1.2.2,v.2.2.2.2.1.2.1.2.1.1,v.2.2.2.2.1.2.1.2.1.2.1,v.2.2.2.2.1.2.1.2.1.2.2,v.2.2.2.2.1.2.2,v.2.2.2.2.2.1.1,v.2.2.2.2.2.2.1,v.2.2.2.2.2.2.2.1,v.2.2.2.2.2.2.2.2.1.1,v.2.2.2.2.2.2.2.2.2.1.1.1,v.2.2.2.2.2.2.2.2.2.1.1.2.1,v.2.2.2.2.2.2.2.2.2.1.1.2.2,v.2.2.2.2.2.2.2.2.2.1.2.1.1,v.2.2.2.2.2.2.2.2.2.1.2.1.2.1,v.2.2.2.2.2.2.2.2.2.1.2.1.2.2⟩
 fr := fun x => (((),(x.opn,((x.out_lo,x.out_len,x.out_cap),((),((),(x.n,(x.i,(x.v,((),((),((),(x.opn2,((x.out_lo2,x.out_len2,x.out_cap2),((),((),(x.n2,(x.i2,()))))))))))))))))),((x.pi,(x.ps,())),(((),()),(((),()),((x.out,((x.x_lo,x.x_len,x.x_cap),((x.y_lo,x.y_len,x.y_cap),())),x.out_r),((x.nn,()),(x.xs,(x.ys,((x.left,()),(((x.bi_lo,x.bi_len,x.bi_cap),((x.bs_lo,x.bs_len,x.bs_cap),())),()))))))))))
structure bq1aX where
 opn : Int
 out_lo : Nat
 out_len : Nat
 out_cap : Nat
 n : Int
 i : Int
 pi : List (Int)
 ps : List (Int)
 out : List ((List (Int)) × List (Int))
 x_lo : Nat
 x_len : Nat
 x_cap : Nat
 y_lo : Nat
 y_len : Nat
 y_cap : Nat
 out_r : List ((List (Int)) × List (Int))
 nn : Int
 xs : List (Int)
 ys : List (Int)
 left : Int
 bi_lo : Nat
 bi_len : Nat
 bi_cap : Nat
 bs_lo : Nat
 bs_len : Nat
 bs_cap : Nat
def bq1a : Pt bq1aX where
 own := []
 t := ⟨[(1000000,.c (.clo 1000000 [])),(1000001,.c (.ptr 8 0)),(2000001,.c (.ptr 0 0)),(2000005,.c (.it .i64)),(2000006,.c (.slc 3 0 2)),(2000007,.c (.ptr 4 0)),(2000008,.c (.ptr 7 0)),(2000032,.c (.it .i64)),(2000033,.c (.it .i64))],[.st [.arr (.int .u8),.arr (.int .u8)] 1 0,.st [.junk] 1 0,.st [.junk] 1 0,.opn (.pair (.sl (.int .u8)) (.sl (.int .u8))) [.slc 5 0 1,.slc 6 0 1] 0,.st [.it .i64] 1 0,.arr (.int .u8) 0,.arr (.int .u8) 0,.st [.it .i64] 1 0,.st [.slc 5 0 1,.slc 6 0 1] 1 0]⟩
 to := fun v => ⟨v.1.2.2.2.1,v.1.2.2.2.2.1.1,v.1.2.2.2.2.1.2.1,v.1.2.2.2.2.1.2.2,v.1.2.2.2.2.2.2.2.1,v.1.2.2.2.2.2.2.2.2.1,v.2.1.1,v.2.1.2.1,v.2.2.2.2.1.1,v.2.2.2.2.1.2.1.1.1,v.2.2.2.2.1.2.1.1.2.1,v.2.2.2.2.1.2.1.1.2.2,v.2.2.2.2.1.2.1.2.1.1,v.2.2.2.2.1.2.1.2.1.2.1,v.2.2.2.2.1.2.1.2.1.2.2,v.2.2.2.2.1.2.2,v.2.2.2.2.2.1.1,v.2.2.2.2.2.2.1,v.2.2.2.2.2.2.2.1,v.2.2.2.2.2.2.2.2.1.1,v.2.2.2.2.2.2.2.2.2.1.1.1,v.2.2.2.2.2.2.2.2.2.1.1.2.1,v.2.2.2.2.2.2.2.2.2.1.1.2.2,v.2.2.2.2.2.2.2.2.2.1.2.1.1,v.2.2.2.2.2.2.2.2.2.1.2.1.2.1,v.2.2.2.2.2.2.2.2.2.1.2.1.2.2⟩
 fr := fun x => (((),((),((),(x.opn,((x.out_lo,x.out_len,x.out_cap),((),((),(x.n,(x.i,()))))))))),((x.pi,(x.ps,())),(((),()),(((),()),((x.out,((x.x_lo,x.x_len,x.x_cap),((x.y_lo,x.y_len,x.y_cap),())),x.out_r),((x.nn,()),(x.xs,(x.ys,((x.left,()),(((x.bi_lo,x.bi_len,x.bi_cap),((x.bs_lo,x.bs_len,x.bs_cap),())),()))))))))))
noncomputable def sb1a (x : bp1aX) : Option bq1aX := bif decide (x.v < x.xs.length) then bif x.xs[x.v]?.getD 0 == 2 then bif decide (0 ≤ IntKind.i64.wrap (x.left - 1)) then bif decide (x.v < x.xs.length) then some { opn := x.opn2,out_lo := x.out_lo2,out_len := x.out_len2,out_cap := x.out_cap2,n := x.n2,i := x.i2,pi := x.pi,ps := x.ps,out := x.out,x_lo := x.x_lo,x_len := x.x_len,x_cap := x.x_cap,y_lo := x.y_lo,y_len := x.y_len,y_cap := x.y_cap,out_r := x.out_r,nn := x.nn,xs := x.xs.set x.v (IntKind.u8.wrap (IntKind.i64.wrap (↑(BitVec.ofInt 64 (x.nn.fdiv (2 ^ min (IntKind.i64.wrap (x.left - 1)).toNat 64)) &&& BitVec.ofInt 64 1).toNat : Int))),ys := x.ys,left := IntKind.i64.wrap (x.left - 1),bi_lo := x.bi_lo,bi_len := x.bi_len,bi_cap := x.bi_cap,bs_lo := x.bs_lo,bs_len := x.bs_len,bs_cap := x.bs_cap } else none else none else some { opn := x.opn2,out_lo := x.out_lo2,out_len := x.out_len2,out_cap := x.out_cap2,n := x.n2,i := x.i2,pi := x.pi,ps := x.ps,out := x.out,x_lo := x.x_lo,x_len := x.x_len,x_cap := x.x_cap,y_lo := x.y_lo,y_len := x.y_len,y_cap := x.y_cap,out_r := x.out_r,nn := x.nn,xs := x.xs,ys := x.ys,left := x.left,bi_lo := x.bi_lo,bi_len := x.bi_len,bi_cap := x.bi_cap,bs_lo := x.bs_lo,bs_len := x.bs_len,bs_cap := x.bs_cap }
else none
theorem sb1a_eq (x : bp1aX) : roundRun EB1_0 64 R1.rA R1.rB (bp1a.R x) (bp1a.H x) (endK 0 bq1a) = sb1a x := by kernel_rfl
noncomputable def ub1a : LoopS := mkUnit 0 bp1a bq1a sb1a
theorem ta1a : topL R1.rA 0 = [] := by kernel_rfl
theorem tb1a : topL R1.rB R1.rA.nl = [] := by kernel_rfl
theorem ub1a_ok {y : YI} (hy : Rnd R1.rA R1.rB R1.rP 64 y) : BodyOkS Try.prog 64 0 y.assign y.body ub1a := mkBody_ok mixed (env_ok ty_ok cl_ok _) rfl ⟨by kernel_rfl,by kernel_rfl⟩ (fun _ => rfl) (fun _ => rfl) (fun _ => ta1a ▸ AllL.nil) (fun l => tb1a ▸ AllL.nil) sb1a_eq hy
structure bp1bX where
 opn : Int
 out_lo : Nat
 out_len : Nat
 out_cap : Nat
 n : Int
 i : Int
 v : Nat
 opn2 : Int
 out_lo2 : Nat
 out_len2 : Nat
 out_cap2 : Nat
 n2 : Int
 i2 : Int
 pi : List (Int)
 ps : List (Int)
 out : List ((List (Int)) × List (Int))
 x_lo : Nat
 x_len : Nat
 x_cap : Nat
 y_lo : Nat
 y_len : Nat
 y_cap : Nat
 out_r : List ((List (Int)) × List (Int))
 nn : Int
 xs : List (Int)
 ys : List (Int)
 left : Int
 bi_lo : Nat
 bi_len : Nat
 bi_cap : Nat
 bs_lo : Nat
 bs_len : Nat
 bs_cap : Nat
def bp1b : Pt bp1bX where
 own := []
 t := ⟨[(1,.c (.ptr 0 0)),(5,.c (.it .i64)),(6,.c (.slc 3 0 2)),(7,.c (.ptr 4 0)),(8,.c (.ptr 7 0)),(32,.c (.it .i64)),(33,.c (.it .i64)),(48,.c (.el 6 0 1 0)),(1000000,.c (.clo 1000000 [])),(1000001,.c (.ptr 8 0)),(2000001,.c (.ptr 0 0)),(2000005,.c (.it .i64)),(2000006,.c (.slc 3 0 2)),(2000007,.c (.ptr 4 0)),(2000008,.c (.ptr 7 0)),(2000032,.c (.it .i64)),(2000033,.c (.it .i64))],[.st [.arr (.int .u8),.arr (.int .u8)] 1 0,.st [.junk] 1 0,.st [.junk] 1 0,.opn (.pair (.sl (.int .u8)) (.sl (.int .u8))) [.slc 5 0 1,.slc 6 0 1] 0,.st [.it .i64] 1 0,.arr (.int .u8) 0,.arr (.int .u8) 0,.st [.it .i64] 1 0,.st [.slc 5 0 1,.slc 6 0 1] 1 0]⟩
 to := fun v => ⟨v.1.2.1,v.1.2.2.1.1,v.1.2.2.1.2.1,v.1.2.2.1.2.2,v.1.2.2.2.2.2.1,v.1.2.2.2.2.2.2.1,v.1.2.2.2.2.2.2.2.1,v.1.2.2.2.2.2.2.2.2.2.2.2.1,v.1.2.2.2.2.2.2.2.2.2.2.2.2.1.1,v.1.2.2.2.2.2.2.2.2.2.2.2.2.1.2.1,v.1.2.2.2.2.2.2.2.2.2.2.2.2.1.2.2,v.1.2.2.2.2.2.2.2.2.2.2.2.2.2.2.2.1,v.1.2.2.2.2.2.2.2.2.2.2.2.2.2.2.2.2.1,v.2.1.1,v.2.1.2.1,v.2.2.2.2.1.1,v.2.2.2.2.1.2.1.1.1,v.2.2.2.2.1.2.1.1.2.1,v.2.2.2.2.1.2.1.1.2.2,v.2.2.2.2.1.2.1.2.1.1,v.2.2.2.2.1.2.1.2.1.2.1,v.2.2.2.2.1.2.1.2.1.2.2,v.2.2.2.2.1.2.2,v.2.2.2.2.2.1.1,v.2.2.2.2.2.2.1,v.2.2.2.2.2.2.2.1,v.2.2.2.2.2.2.2.2.1.1,v.2.2.2.2.2.2.2.2.2.1.1.1,v.2.2.2.2.2.2.2.2.2.1.1.2.1,v.2.2.2.2.2.2.2.2.2.1.1.2.2,v.2.2.2.2.2.2.2.2.2.1.2.1.1,v.2.2.2.2.2.2.2.2.2.1.2.1.2.1,v.2.2.2.2.2.2.2.2.2.1.2.1.2.2⟩
 fr := fun x => (((),(x.opn,((x.out_lo,x.out_len,x.out_cap),((),((),(x.n,(x.i,(x.v,((),((),((),(x.opn2,((x.out_lo2,x.out_len2,x.out_cap2),((),((),(x.n2,(x.i2,()))))))))))))))))),((x.pi,(x.ps,())),(((),()),(((),()),((x.out,((x.x_lo,x.x_len,x.x_cap),((x.y_lo,x.y_len,x.y_cap),())),x.out_r),((x.nn,()),(x.xs,(x.ys,((x.left,()),(((x.bi_lo,x.bi_len,x.bi_cap),((x.bs_lo,x.bs_len,x.bs_cap),())),()))))))))))
structure bq1bX where
 opn : Int
 out_lo : Nat
 out_len : Nat
 out_cap : Nat
 n : Int
 i : Int
 pi : List (Int)
 ps : List (Int)
 out : List ((List (Int)) × List (Int))
 x_lo : Nat
 x_len : Nat
 x_cap : Nat
 y_lo : Nat
 y_len : Nat
 y_cap : Nat
 out_r : List ((List (Int)) × List (Int))
 nn : Int
 xs : List (Int)
 ys : List (Int)
 left : Int
 bi_lo : Nat
 bi_len : Nat
 bi_cap : Nat
 bs_lo : Nat
 bs_len : Nat
 bs_cap : Nat
def bq1b : Pt bq1bX where
 own := []
 t := ⟨[(1000000,.c (.clo 1000000 [])),(1000001,.c (.ptr 8 0)),(2000001,.c (.ptr 0 0)),(2000005,.c (.it .i64)),(2000006,.c (.slc 3 0 2)),(2000007,.c (.ptr 4 0)),(2000008,.c (.ptr 7 0)),(2000032,.c (.it .i64)),(2000033,.c (.it .i64))],[.st [.arr (.int .u8),.arr (.int .u8)] 1 0,.st [.junk] 1 0,.st [.junk] 1 0,.opn (.pair (.sl (.int .u8)) (.sl (.int .u8))) [.slc 5 0 1,.slc 6 0 1] 0,.st [.it .i64] 1 0,.arr (.int .u8) 0,.arr (.int .u8) 0,.st [.it .i64] 1 0,.st [.slc 5 0 1,.slc 6 0 1] 1 0]⟩
 to := fun v => ⟨v.1.2.2.2.1,v.1.2.2.2.2.1.1,v.1.2.2.2.2.1.2.1,v.1.2.2.2.2.1.2.2,v.1.2.2.2.2.2.2.2.1,v.1.2.2.2.2.2.2.2.2.1,v.2.1.1,v.2.1.2.1,v.2.2.2.2.1.1,v.2.2.2.2.1.2.1.1.1,v.2.2.2.2.1.2.1.1.2.1,v.2.2.2.2.1.2.1.1.2.2,v.2.2.2.2.1.2.1.2.1.1,v.2.2.2.2.1.2.1.2.1.2.1,v.2.2.2.2.1.2.1.2.1.2.2,v.2.2.2.2.1.2.2,v.2.2.2.2.2.1.1,v.2.2.2.2.2.2.1,v.2.2.2.2.2.2.2.1,v.2.2.2.2.2.2.2.2.1.1,v.2.2.2.2.2.2.2.2.2.1.1.1,v.2.2.2.2.2.2.2.2.2.1.1.2.1,v.2.2.2.2.2.2.2.2.2.1.1.2.2,v.2.2.2.2.2.2.2.2.2.1.2.1.1,v.2.2.2.2.2.2.2.2.2.1.2.1.2.1,v.2.2.2.2.2.2.2.2.2.1.2.1.2.2⟩
 fr := fun x => (((),((),((),(x.opn,((x.out_lo,x.out_len,x.out_cap),((),((),(x.n,(x.i,()))))))))),((x.pi,(x.ps,())),(((),()),(((),()),((x.out,((x.x_lo,x.x_len,x.x_cap),((x.y_lo,x.y_len,x.y_cap),())),x.out_r),((x.nn,()),(x.xs,(x.ys,((x.left,()),(((x.bi_lo,x.bi_len,x.bi_cap),((x.bs_lo,x.bs_len,x.bs_cap),())),()))))))))))
noncomputable def sb1b (x : bp1bX) : Option bq1bX := bif decide (x.v < x.ys.length) then bif x.ys[x.v]?.getD 0 == 2 then bif decide (0 ≤ IntKind.i64.wrap (x.left - 1)) then bif decide (x.v < x.ys.length) then some { opn := x.opn2,out_lo := x.out_lo2,out_len := x.out_len2,out_cap := x.out_cap2,n := x.n2,i := x.i2,pi := x.pi,ps := x.ps,out := x.out,x_lo := x.x_lo,x_len := x.x_len,x_cap := x.x_cap,y_lo := x.y_lo,y_len := x.y_len,y_cap := x.y_cap,out_r := x.out_r,nn := x.nn,xs := x.xs,ys := x.ys.set x.v (IntKind.u8.wrap (IntKind.i64.wrap (↑(BitVec.ofInt 64 (x.nn.fdiv (2 ^ min (IntKind.i64.wrap (x.left - 1)).toNat 64)) &&& BitVec.ofInt 64 1).toNat : Int))),left := IntKind.i64.wrap (x.left - 1),bi_lo := x.bi_lo,bi_len := x.bi_len,bi_cap := x.bi_cap,bs_lo := x.bs_lo,bs_len := x.bs_len,bs_cap := x.bs_cap } else none else none else some { opn := x.opn2,out_lo := x.out_lo2,out_len := x.out_len2,out_cap := x.out_cap2,n := x.n2,i := x.i2,pi := x.pi,ps := x.ps,out := x.out,x_lo := x.x_lo,x_len := x.x_len,x_cap := x.x_cap,y_lo := x.y_lo,y_len := x.y_len,y_cap := x.y_cap,out_r := x.out_r,nn := x.nn,xs := x.xs,ys := x.ys,left := x.left,bi_lo := x.bi_lo,bi_len := x.bi_len,bi_cap := x.bi_cap,bs_lo := x.bs_lo,bs_len := x.bs_len,bs_cap := x.bs_cap }
else none
theorem sb1b_eq (x : bp1bX) : roundRun EB1_0 64 R1.rA R1.rB (bp1b.R x) (bp1b.H x) (endK 0 bq1b) = sb1b x := by kernel_rfl
noncomputable def ub1b : LoopS := mkUnit 0 bp1b bq1b sb1b
theorem ta1b : topL R1.rA 0 = [] := by kernel_rfl
theorem tb1b : topL R1.rB R1.rA.nl = [] := by kernel_rfl
theorem ub1b_ok {y : YI} (hy : Rnd R1.rA R1.rB R1.rP 64 y) : BodyOkS Try.prog 64 0 y.assign y.body ub1b := mkBody_ok mixed (env_ok ty_ok cl_ok _) rfl ⟨by kernel_rfl,by kernel_rfl⟩ (fun _ => rfl) (fun _ => rfl) (fun _ => ta1b ▸ AllL.nil) (fun l => tb1b ▸ AllL.nil) sb1b_eq hy
noncomputable def ub1 : LoopS := .alt ub1a ub1b
theorem ub1_ok {y : YI} (hy : Rnd R1.rA R1.rB R1.rP 64 y) : BodyOkS Try.prog 64 0 y.assign y.body ub1 := ⟨ub1a_ok hy,ub1b_ok hy⟩
noncomputable def EI1_2 : Env := ⟨ty,cfOf cl,fun _ => none,some (R1.rP,ub1)⟩
theorem yi1_2 {y : YI} (hy : Rnd R1.rA R1.rB R1.rP 64 y) : YldOk Try.prog 0 EI1_2 (some y) := yld_ok rfl (by kernel_rfl) (by kernel_rfl) ub1_ok hy
structure i1_p1X where
 n2 : Int
 i2 : Int
 opn : Int
 out_lo : Nat
 out_len : Nat
 out_cap : Nat
 n : Int
 i : Int
 pi : List (Int)
 ps : List (Int)
 out : List ((List (Int)) × List (Int))
 x_lo : Nat
 x_len : Nat
 x_cap : Nat
 y_lo : Nat
 y_len : Nat
 y_cap : Nat
 out_r : List ((List (Int)) × List (Int))
 nn : Int
 xs : List (Int)
 ys : List (Int)
 left : Int
 bi_lo : Nat
 bi_len : Nat
 bi_cap : Nat
 bs_lo : Nat
 bs_len : Nat
 bs_cap : Nat
def i1_p1 : Pt i1_p1X where
 own := []
 t := ⟨[(0,.c (.clo 1000000 [])),(1,.c (.ptr 8 0)),(22,.c (.it .i64)),(23,.c (.it .i64)),(2000001,.c (.ptr 0 0)),(2000005,.c (.it .i64)),(2000006,.c (.slc 3 0 2)),(2000007,.c (.ptr 4 0)),(2000008,.c (.ptr 7 0)),(2000032,.c (.it .i64)),(2000033,.c (.it .i64)),(3000000,.c (.fn 0))],[.st [.arr (.int .u8),.arr (.int .u8)] 1 0,.st [.junk] 1 0,.st [.junk] 1 0,.opn (.pair (.sl (.int .u8)) (.sl (.int .u8))) [.slc 5 0 1,.slc 6 0 1] 0,.st [.it .i64] 1 0,.arr (.int .u8) 0,.arr (.int .u8) 0,.st [.it .i64] 1 0,.st [.slc 5 0 1,.slc 6 0 1] 1 0]⟩
 to := fun v => ⟨v.1.2.2.1,v.1.2.2.2.1,v.1.2.2.2.2.2.1,v.1.2.2.2.2.2.2.1.1,v.1.2.2.2.2.2.2.1.2.1,v.1.2.2.2.2.2.2.1.2.2,v.1.2.2.2.2.2.2.2.2.2.1,v.1.2.2.2.2.2.2.2.2.2.2.1,v.2.1.1,v.2.1.2.1,v.2.2.2.2.1.1,v.2.2.2.2.1.2.1.1.1,v.2.2.2.2.1.2.1.1.2.1,v.2.2.2.2.1.2.1.1.2.2,v.2.2.2.2.1.2.1.2.1.1,v.2.2.2.2.1.2.1.2.1.2.1,v.2.2.2.2.1.2.1.2.1.2.2,v.2.2.2.2.1.2.2,v.2.2.2.2.2.1.1,v.2.2.2.2.2.2.1,v.2.2.2.2.2.2.2.1,v.2.2.2.2.2.2.2.2.1.1,v.2.2.2.2.2.2.2.2.2.1.1.1,v.2.2.2.2.2.2.2.2.2.1.1.2.1,v.2.2.2.2.2.2.2.2.2.1.1.2.2,v.2.2.2.2.2.2.2.2.2.1.2.1.1,v.2.2.2.2.2.2.2.2.2.1.2.1.2.1,v.2.2.2.2.2.2.2.2.2.1.2.1.2.2⟩
 fr := fun x => (((),((),(x.n2,(x.i2,((),(x.opn,((x.out_lo,x.out_len,x.out_cap),((),((),(x.n,(x.i,((),())))))))))))),((x.pi,(x.ps,())),(((),()),(((),()),((x.out,((x.x_lo,x.x_len,x.x_cap),((x.y_lo,x.y_len,x.y_cap),())),x.out_r),((x.nn,()),(x.xs,(x.ys,((x.left,()),(((x.bi_lo,x.bi_len,x.bi_cap),((x.bs_lo,x.bs_len,x.bs_cap),())),()))))))))))
structure i1_q1X where
 opn : Int
 out_lo : Nat
 out_len : Nat
 out_cap : Nat
 n : Int
 i : Int
 pi : List (Int)
 ps : List (Int)
 out : List ((List (Int)) × List (Int))
 x_lo : Nat
 x_len : Nat
 x_cap : Nat
 y_lo : Nat
 y_len : Nat
 y_cap : Nat
 out_r : List ((List (Int)) × List (Int))
 nn : Int
 xs : List (Int)
 ys : List (Int)
 left : Int
 bi_lo : Nat
 bi_len : Nat
 bi_cap : Nat
 bs_lo : Nat
 bs_len : Nat
 bs_cap : Nat
def i1_q1 : Pt i1_q1X where
 own := []
 t := ⟨[(2000001,.c (.ptr 0 0)),(2000005,.c (.it .i64)),(2000006,.c (.slc 3 0 2)),(2000007,.c (.ptr 4 0)),(2000008,.c (.ptr 7 0)),(2000032,.c (.it .i64)),(2000033,.c (.it .i64)),(3000000,.c (.fn 0))],[.st [.arr (.int .u8),.arr (.int .u8)] 1 0,.st [.junk] 1 0,.st [.junk] 1 0,.opn (.pair (.sl (.int .u8)) (.sl (.int .u8))) [.slc 5 0 1,.slc 6 0 1] 0,.st [.it .i64] 1 0,.arr (.int .u8) 0,.arr (.int .u8) 0,.st [.it .i64] 1 0,.st [.slc 5 0 1,.slc 6 0 1] 1 0]⟩
 to := fun v => ⟨v.1.2.1,v.1.2.2.1.1,v.1.2.2.1.2.1,v.1.2.2.1.2.2,v.1.2.2.2.2.2.1,v.1.2.2.2.2.2.2.1,v.2.1.1,v.2.1.2.1,v.2.2.2.2.1.1,v.2.2.2.2.1.2.1.1.1,v.2.2.2.2.1.2.1.1.2.1,v.2.2.2.2.1.2.1.1.2.2,v.2.2.2.2.1.2.1.2.1.1,v.2.2.2.2.1.2.1.2.1.2.1,v.2.2.2.2.1.2.1.2.1.2.2,v.2.2.2.2.1.2.2,v.2.2.2.2.2.1.1,v.2.2.2.2.2.2.1,v.2.2.2.2.2.2.2.1,v.2.2.2.2.2.2.2.2.1.1,v.2.2.2.2.2.2.2.2.2.1.1.1,v.2.2.2.2.2.2.2.2.2.1.1.2.1,v.2.2.2.2.2.2.2.2.2.1.1.2.2,v.2.2.2.2.2.2.2.2.2.1.2.1.1,v.2.2.2.2.2.2.2.2.2.1.2.1.2.1,v.2.2.2.2.2.2.2.2.2.1.2.1.2.2⟩
 fr := fun x => (((),(x.opn,((x.out_lo,x.out_len,x.out_cap),((),((),(x.n,(x.i,((),())))))))),((x.pi,(x.ps,())),(((),()),(((),()),((x.out,((x.x_lo,x.x_len,x.x_cap),((x.y_lo,x.y_len,x.y_cap),())),x.out_r),((x.nn,()),(x.xs,(x.ys,((x.left,()),(((x.bi_lo,x.bi_len,x.bi_cap),((x.bs_lo,x.bs_len,x.bs_cap),())),()))))))))))
noncomputable def i1_s1 (x : i1_p1X) : Option (i1_p1X ⊕ i1_q1X) := bif decide (x.i2 < x.n2) then bif inR x.i2 x.bs_len then bindO (sb1b { opn := x.opn,out_lo := x.out_lo,out_len := x.out_len,out_cap := x.out_cap,n := x.n,i := x.i,v := x.bs_lo + x.i2.toNat,opn2 := x.opn,out_lo2 := x.out_lo,out_len2 := x.out_len,out_cap2 := x.out_cap,n2 := x.n,i2 := x.i,pi := x.pi,ps := x.ps,out := x.out,x_lo := x.x_lo,x_len := x.x_len,x_cap := x.x_cap,y_lo := x.y_lo,y_len := x.y_len,y_cap := x.y_cap,out_r := x.out_r,nn := x.nn,xs := x.xs,ys := x.ys,left := x.left,bi_lo := x.bi_lo,bi_len := x.bi_len,bi_cap := x.bi_cap,bs_lo := x.bs_lo,bs_len := x.bs_len,bs_cap := x.bs_cap }) fun y => some (Sum.inl { n2 := x.n2,i2 := IntKind.i64.wrap (x.i2 + 1),opn := y.opn,out_lo := y.out_lo,out_len := y.out_len,out_cap := y.out_cap,n := y.n,i := y.i,pi := y.pi,ps := y.ps,out := y.out,x_lo := y.x_lo,x_len := y.x_len,x_cap := y.x_cap,y_lo := y.y_lo,y_len := y.y_len,y_cap := y.y_cap,out_r := y.out_r,nn := y.nn,xs := y.xs,ys := y.ys,left := y.left,bi_lo := y.bi_lo,bi_len := y.bi_len,bi_cap := y.bi_cap,bs_lo := y.bs_lo,bs_len := y.bs_len,bs_cap := y.bs_cap }) else none
else
 some
  (Sum.inr
   {opn := x.opn,out_lo := x.out_lo,out_len := x.out_len,out_cap := x.out_cap,n := x.n,i := x.i,pi := x.pi,ps := x.ps,out := x.out,x_lo := x.x_lo,x_len := x.x_len,
    x_cap := x.x_cap,y_lo := x.y_lo,y_len := x.y_len,y_cap := x.y_cap,out_r := x.out_r,nn := x.nn,xs := x.xs,ys := x.ys,left := x.left,bi_lo := x.bi_lo,
    bi_len := x.bi_len,bi_cap := x.bi_cap,bs_lo := x.bs_lo,bs_len := x.bs_len,bs_cap := x.bs_cap })
theorem i1_s1_eq (x : i1_p1X) : exec EI1_2 39 (C50.bodyAt 1) 2 (i1_p1.R x) (i1_p1.H x) (roundK 0 i1_p1 (.exit 2) i1_q1) = i1_s1 x := by kernel_rfl
noncomputable def i1_l1 : LoopS := mkLoop 0 i1_p1 (.exit 2) i1_q1 i1_s1
theorem ti1_l1 : topL (C50.bodyAt 1) 2 = [] := by kernel_rfl
theorem i1_l1_ok {y : YI} (hy : Rnd R1.rA R1.rB R1.rP 64 y) : LoopOkS Try.prog 39 none 0 (C50.bodyAt 1) i1_l1 (some y) := mkLoop_ok mixed (env_ok ty_ok cl_ok _) (by trivial) (fun _ => rfl) (fun _ => rfl) (ti1_l1 ▸ AllL.nil) i1_s1_eq (hyk := yi1_2 hy)
noncomputable def EI1_1 : Env := ⟨ty,cfOf cl,lpOf [(1,i1_l1)],some (R1.rP,ub1)⟩
theorem yi1_1 {y : YI} (hy : Rnd R1.rA R1.rB R1.rP 64 y) : YldOk Try.prog 0 EI1_1 (some y) := yld_ok rfl (by kernel_rfl) (by kernel_rfl) ub1_ok hy
structure i1_p0X where
 n : Int
 i : Int
 opn : Int
 out_lo : Nat
 out_len : Nat
 out_cap : Nat
 n2 : Int
 i2 : Int
 pi : List (Int)
 ps : List (Int)
 out : List ((List (Int)) × List (Int))
 x_lo : Nat
 x_len : Nat
 x_cap : Nat
 y_lo : Nat
 y_len : Nat
 y_cap : Nat
 out_r : List ((List (Int)) × List (Int))
 nn : Int
 xs : List (Int)
 ys : List (Int)
 left : Int
 bi_lo : Nat
 bi_len : Nat
 bi_cap : Nat
 bs_lo : Nat
 bs_len : Nat
 bs_cap : Nat
def i1_p0 : Pt i1_p0X where
 own := []
 t := ⟨[(0,.c (.clo 1000000 [])),(1,.c (.ptr 8 0)),(7,.c (.it .i64)),(8,.c (.it .i64)),(2000001,.c (.ptr 0 0)),(2000005,.c (.it .i64)),(2000006,.c (.slc 3 0 2)),(2000007,.c (.ptr 4 0)),(2000008,.c (.ptr 7 0)),(2000032,.c (.it .i64)),(2000033,.c (.it .i64)),(3000000,.c (.fn 0))],[.st [.arr (.int .u8),.arr (.int .u8)] 1 0,.st [.junk] 1 0,.st [.junk] 1 0,.opn (.pair (.sl (.int .u8)) (.sl (.int .u8))) [.slc 5 0 1,.slc 6 0 1] 0,.st [.it .i64] 1 0,.arr (.int .u8) 0,.arr (.int .u8) 0,.st [.it .i64] 1 0,.st [.slc 5 0 1,.slc 6 0 1] 1 0]⟩
 to := fun v => ⟨v.1.2.2.1,v.1.2.2.2.1,v.1.2.2.2.2.2.1,v.1.2.2.2.2.2.2.1.1,v.1.2.2.2.2.2.2.1.2.1,v.1.2.2.2.2.2.2.1.2.2,v.1.2.2.2.2.2.2.2.2.2.1,v.1.2.2.2.2.2.2.2.2.2.2.1,v.2.1.1,v.2.1.2.1,v.2.2.2.2.1.1,v.2.2.2.2.1.2.1.1.1,v.2.2.2.2.1.2.1.1.2.1,v.2.2.2.2.1.2.1.1.2.2,v.2.2.2.2.1.2.1.2.1.1,v.2.2.2.2.1.2.1.2.1.2.1,v.2.2.2.2.1.2.1.2.1.2.2,v.2.2.2.2.1.2.2,v.2.2.2.2.2.1.1,v.2.2.2.2.2.2.1,v.2.2.2.2.2.2.2.1,v.2.2.2.2.2.2.2.2.1.1,v.2.2.2.2.2.2.2.2.2.1.1.1,v.2.2.2.2.2.2.2.2.2.1.1.2.1,v.2.2.2.2.2.2.2.2.2.1.1.2.2,v.2.2.2.2.2.2.2.2.2.1.2.1.1,v.2.2.2.2.2.2.2.2.2.1.2.1.2.1,v.2.2.2.2.2.2.2.2.2.1.2.1.2.2⟩
 fr := fun x => (((),((),(x.n,(x.i,((),(x.opn,((x.out_lo,x.out_len,x.out_cap),((),((),(x.n2,(x.i2,((),())))))))))))),((x.pi,(x.ps,())),(((),()),(((),()),((x.out,((x.x_lo,x.x_len,x.x_cap),((x.y_lo,x.y_len,x.y_cap),())),x.out_r),((x.nn,()),(x.xs,(x.ys,((x.left,()),(((x.bi_lo,x.bi_len,x.bi_cap),((x.bs_lo,x.bs_len,x.bs_cap),())),()))))))))))
structure i1_q0X where
 opn : Int
 out_lo : Nat
 out_len : Nat
 out_cap : Nat
 n : Int
 i : Int
 pi : List (Int)
 ps : List (Int)
 out : List ((List (Int)) × List (Int))
 x_lo : Nat
 x_len : Nat
 x_cap : Nat
 y_lo : Nat
 y_len : Nat
 y_cap : Nat
 out_r : List ((List (Int)) × List (Int))
 nn : Int
 xs : List (Int)
 ys : List (Int)
 left : Int
 bi_lo : Nat
 bi_len : Nat
 bi_cap : Nat
 bs_lo : Nat
 bs_len : Nat
 bs_cap : Nat
def i1_q0 : Pt i1_q0X where
 own := []
 t := ⟨[(0,.c (.clo 1000000 [])),(1,.c (.ptr 8 0)),(2000001,.c (.ptr 0 0)),(2000005,.c (.it .i64)),(2000006,.c (.slc 3 0 2)),(2000007,.c (.ptr 4 0)),(2000008,.c (.ptr 7 0)),(2000032,.c (.it .i64)),(2000033,.c (.it .i64)),(3000000,.c (.fn 0))],[.st [.arr (.int .u8),.arr (.int .u8)] 1 0,.st [.junk] 1 0,.st [.junk] 1 0,.opn (.pair (.sl (.int .u8)) (.sl (.int .u8))) [.slc 5 0 1,.slc 6 0 1] 0,.st [.it .i64] 1 0,.arr (.int .u8) 0,.arr (.int .u8) 0,.st [.it .i64] 1 0,.st [.slc 5 0 1,.slc 6 0 1] 1 0]⟩
 to := fun v => ⟨v.1.2.2.2.1,v.1.2.2.2.2.1.1,v.1.2.2.2.2.1.2.1,v.1.2.2.2.2.1.2.2,v.1.2.2.2.2.2.2.2.1,v.1.2.2.2.2.2.2.2.2.1,v.2.1.1,v.2.1.2.1,v.2.2.2.2.1.1,v.2.2.2.2.1.2.1.1.1,v.2.2.2.2.1.2.1.1.2.1,v.2.2.2.2.1.2.1.1.2.2,v.2.2.2.2.1.2.1.2.1.1,v.2.2.2.2.1.2.1.2.1.2.1,v.2.2.2.2.1.2.1.2.1.2.2,v.2.2.2.2.1.2.2,v.2.2.2.2.2.1.1,v.2.2.2.2.2.2.1,v.2.2.2.2.2.2.2.1,v.2.2.2.2.2.2.2.2.1.1,v.2.2.2.2.2.2.2.2.2.1.1.1,v.2.2.2.2.2.2.2.2.2.1.1.2.1,v.2.2.2.2.2.2.2.2.2.1.1.2.2,v.2.2.2.2.2.2.2.2.2.1.2.1.1,v.2.2.2.2.2.2.2.2.2.1.2.1.2.1,v.2.2.2.2.2.2.2.2.2.1.2.1.2.2⟩
 fr := fun x => (((),((),((),(x.opn,((x.out_lo,x.out_len,x.out_cap),((),((),(x.n,(x.i,((),())))))))))),((x.pi,(x.ps,())),(((),()),(((),()),((x.out,((x.x_lo,x.x_len,x.x_cap),((x.y_lo,x.y_len,x.y_cap),())),x.out_r),((x.nn,()),(x.xs,(x.ys,((x.left,()),(((x.bi_lo,x.bi_len,x.bi_cap),((x.bs_lo,x.bs_len,x.bs_cap),())),()))))))))))
noncomputable def i1_s0 (x : i1_p0X) : Option (i1_p0X ⊕ i1_q0X) := bif decide (x.i < x.n) then bif inR x.i x.bi_len then bindO (sb1a { opn := x.opn,out_lo := x.out_lo,out_len := x.out_len,out_cap := x.out_cap,n := x.n2,i := x.i2,v := x.bi_lo + x.i.toNat,opn2 := x.opn,out_lo2 := x.out_lo,out_len2 := x.out_len,out_cap2 := x.out_cap,n2 := x.n2,i2 := x.i2,pi := x.pi,ps := x.ps,out := x.out,x_lo := x.x_lo,x_len := x.x_len,x_cap := x.x_cap,y_lo := x.y_lo,y_len := x.y_len,y_cap := x.y_cap,out_r := x.out_r,nn := x.nn,xs := x.xs,ys := x.ys,left := x.left,bi_lo := x.bi_lo,bi_len := x.bi_len,bi_cap := x.bi_cap,bs_lo := x.bs_lo,bs_len := x.bs_len,bs_cap := x.bs_cap }) fun y => some (Sum.inl { n := x.n,i := IntKind.i64.wrap (x.i + 1),opn := y.opn,out_lo := y.out_lo,out_len := y.out_len,out_cap := y.out_cap,n2 := y.n,i2 := y.i,pi := y.pi,ps := y.ps,out := y.out,x_lo := y.x_lo,x_len := y.x_len,x_cap := y.x_cap,y_lo := y.y_lo,y_len := y.y_len,y_cap := y.y_cap,out_r := y.out_r,nn := y.nn,xs := y.xs,ys := y.ys,left := y.left,bi_lo := y.bi_lo,bi_len := y.bi_len,bi_cap := y.bi_cap,bs_lo := y.bs_lo,bs_len := y.bs_len,bs_cap := y.bs_cap }) else none
else
 some
  (Sum.inr
   {opn := x.opn,out_lo := x.out_lo,out_len := x.out_len,out_cap := x.out_cap,n := x.n2,i := x.i2,pi := x.pi,ps := x.ps,out := x.out,x_lo := x.x_lo,x_len := x.x_len,
    x_cap := x.x_cap,y_lo := x.y_lo,y_len := x.y_len,y_cap := x.y_cap,out_r := x.out_r,nn := x.nn,xs := x.xs,ys := x.ys,left := x.left,bi_lo := x.bi_lo,
    bi_len := x.bi_len,bi_cap := x.bi_cap,bs_lo := x.bs_lo,bs_len := x.bs_len,bs_cap := x.bs_cap })
theorem i1_s0_eq (x : i1_p0X) : exec EI1_1 39 (C50.bodyAt 0) 1 (i1_p0.R x) (i1_p0.H x) (roundK 0 i1_p0 (.exit 0) i1_q0) = i1_s0 x := by kernel_rfl
noncomputable def i1_l0 : LoopS := mkLoop 0 i1_p0 (.exit 0) i1_q0 i1_s0
theorem ti1_l0 : topL (C50.bodyAt 0) 1 = [] := by kernel_rfl
theorem i1_l0_ok {y : YI} (hy : Rnd R1.rA R1.rB R1.rP 64 y) : LoopOkS Try.prog 39 none 0 (C50.bodyAt 0) i1_l0 (some y) := mkLoop_ok mixed (env_ok ty_ok cl_ok _) (by trivial) (fun _ => rfl) (fun _ => rfl) (ti1_l0 ▸ AllL.nil) i1_s0_eq (hyk := yi1_1 hy)
noncomputable def EI1_0 : Env := ⟨ty,cfOf cl,lpOf [(0,i1_l0),(1,i1_l1)],some (R1.rP,ub1)⟩
theorem yi1_0 {y : YI} (hy : Rnd R1.rA R1.rB R1.rP 64 y) : YldOk Try.prog 0 EI1_0 (some y) := yld_ok rfl (by kernel_rfl) (by kernel_rfl) ub1_ok hy
structure p1X where
 opn : Int
 out_lo : Nat
 out_len : Nat
 out_cap : Nat
 n : Int
 i : Int
 pi : List (Int)
 ps : List (Int)
 out : List ((List (Int)) × List (Int))
 x_lo : Nat
 x_len : Nat
 x_cap : Nat
 y_lo : Nat
 y_len : Nat
 y_cap : Nat
 out_r : List ((List (Int)) × List (Int))
 nn : Int
 xs : List (Int)
 ys : List (Int)
 left : Int
 bi_lo : Nat
 bi_len : Nat
 bi_cap : Nat
 bs_lo : Nat
 bs_len : Nat
 bs_cap : Nat
def p1 : Pt p1X where
 own := []
 t := ⟨[(1,.c (.ptr 0 0)),(5,.c (.it .i64)),(6,.c (.slc 3 0 2)),(7,.c (.ptr 4 0)),(8,.c (.ptr 7 0)),(32,.c (.it .i64)),(33,.c (.it .i64)),(46,.c (.clo 50 [⟨8,0,0⟩]))],[.st [.arr (.int .u8),.arr (.int .u8)] 1 0,.st [.junk] 1 0,.st [.junk] 1 0,.opn (.pair (.sl (.int .u8)) (.sl (.int .u8))) [.slc 5 0 1,.slc 6 0 1] 0,.st [.it .i64] 1 0,.arr (.int .u8) 0,.arr (.int .u8) 0,.st [.it .i64] 1 0,.st [.slc 5 0 1,.slc 6 0 1] 1 0]⟩
 to := fun v => ⟨v.1.2.1,v.1.2.2.1.1,v.1.2.2.1.2.1,v.1.2.2.1.2.2,v.1.2.2.2.2.2.1,v.1.2.2.2.2.2.2.1,v.2.1.1,v.2.1.2.1,v.2.2.2.2.1.1,v.2.2.2.2.1.2.1.1.1,v.2.2.2.2.1.2.1.1.2.1,v.2.2.2.2.1.2.1.1.2.2,v.2.2.2.2.1.2.1.2.1.1,v.2.2.2.2.1.2.1.2.1.2.1,v.2.2.2.2.1.2.1.2.1.2.2,v.2.2.2.2.1.2.2,v.2.2.2.2.2.1.1,v.2.2.2.2.2.2.1,v.2.2.2.2.2.2.2.1,v.2.2.2.2.2.2.2.2.1.1,v.2.2.2.2.2.2.2.2.2.1.1.1,v.2.2.2.2.2.2.2.2.2.1.1.2.1,v.2.2.2.2.2.2.2.2.2.1.1.2.2,v.2.2.2.2.2.2.2.2.2.1.2.1.1,v.2.2.2.2.2.2.2.2.2.1.2.1.2.1,v.2.2.2.2.2.2.2.2.2.1.2.1.2.2⟩
 fr := fun x => (((),(x.opn,((x.out_lo,x.out_len,x.out_cap),((),((),(x.n,(x.i,((),())))))))),((x.pi,(x.ps,())),(((),()),(((),()),((x.out,((x.x_lo,x.x_len,x.x_cap),((x.y_lo,x.y_len,x.y_cap),())),x.out_r),((x.nn,()),(x.xs,(x.ys,((x.left,()),(((x.bi_lo,x.bi_len,x.bi_cap),((x.bs_lo,x.bs_len,x.bs_cap),())),()))))))))))
structure q1X where
 opn : Int
 out_lo : Nat
 out_len : Nat
 out_cap : Nat
 n : Int
 i : Int
 pi : List (Int)
 ps : List (Int)
 out : List ((List (Int)) × List (Int))
 x_lo : Nat
 x_len : Nat
 x_cap : Nat
 y_lo : Nat
 y_len : Nat
 y_cap : Nat
 out_r : List ((List (Int)) × List (Int))
 nn : Int
 xs : List (Int)
 ys : List (Int)
 left : Int
 bi_lo : Nat
 bi_len : Nat
 bi_cap : Nat
 bs_lo : Nat
 bs_len : Nat
 bs_cap : Nat
def q1 : Pt q1X where
 own := []
 t := ⟨[(1,.c (.ptr 0 0)),(5,.c (.it .i64)),(6,.c (.slc 3 0 2)),(7,.c (.ptr 4 0)),(8,.c (.ptr 7 0)),(32,.c (.it .i64)),(33,.c (.it .i64))],[.st [.arr (.int .u8),.arr (.int .u8)] 1 0,.st [.junk] 1 0,.st [.junk] 1 0,.opn (.pair (.sl (.int .u8)) (.sl (.int .u8))) [.slc 5 0 1,.slc 6 0 1] 0,.st [.it .i64] 1 0,.arr (.int .u8) 0,.arr (.int .u8) 0,.st [.it .i64] 1 0,.st [.slc 5 0 1,.slc 6 0 1] 1 0]⟩
 to := fun v => ⟨v.1.2.1,v.1.2.2.1.1,v.1.2.2.1.2.1,v.1.2.2.1.2.2,v.1.2.2.2.2.2.1,v.1.2.2.2.2.2.2.1,v.2.1.1,v.2.1.2.1,v.2.2.2.2.1.1,v.2.2.2.2.1.2.1.1.1,v.2.2.2.2.1.2.1.1.2.1,v.2.2.2.2.1.2.1.1.2.2,v.2.2.2.2.1.2.1.2.1.1,v.2.2.2.2.1.2.1.2.1.2.1,v.2.2.2.2.1.2.1.2.1.2.2,v.2.2.2.2.1.2.2,v.2.2.2.2.2.1.1,v.2.2.2.2.2.2.1,v.2.2.2.2.2.2.2.1,v.2.2.2.2.2.2.2.2.1.1,v.2.2.2.2.2.2.2.2.2.1.1.1,v.2.2.2.2.2.2.2.2.2.1.1.2.1,v.2.2.2.2.2.2.2.2.2.1.1.2.2,v.2.2.2.2.2.2.2.2.2.1.2.1.1,v.2.2.2.2.2.2.2.2.2.1.2.1.2.1,v.2.2.2.2.2.2.2.2.2.1.2.1.2.2⟩
 fr := fun x => (((),(x.opn,((x.out_lo,x.out_len,x.out_cap),((),((),(x.n,(x.i,()))))))),((x.pi,(x.ps,())),(((),()),(((),()),((x.out,((x.x_lo,x.x_len,x.x_cap),((x.y_lo,x.y_len,x.y_cap),())),x.out_r),((x.nn,()),(x.xs,(x.ys,((x.left,()),(((x.bi_lo,x.bi_len,x.bi_cap),((x.bs_lo,x.bs_len,x.bs_cap),())),()))))))))))
noncomputable def s1 (x : p1X) : Option q1X := bindO (iter i1_s0 { n := (↑x.bi_len : Int),i := 0,opn := x.opn,out_lo := x.out_lo,out_len := x.out_len,out_cap := x.out_cap,n2 := x.n,i2 := x.i,pi := x.pi,ps := x.ps,out := x.out,x_lo := x.x_lo,x_len := x.x_len,x_cap := x.x_cap,y_lo := x.y_lo,y_len := x.y_len,y_cap := x.y_cap,out_r := x.out_r,nn := x.nn,xs := x.xs,ys := x.ys,left := x.left,bi_lo := x.bi_lo,bi_len := x.bi_len,bi_cap := x.bi_cap,bs_lo := x.bs_lo,bs_len := x.bs_len,bs_cap := x.bs_cap }) fun y => bindO (iter i1_s1 { n2 := (↑y.bs_len : Int),i2 := 0,opn := y.opn,out_lo := y.out_lo,out_len := y.out_len,out_cap := y.out_cap,n := y.n,i := y.i,pi := y.pi,ps := y.ps,out := y.out,x_lo := y.x_lo,x_len := y.x_len,x_cap := y.x_cap,y_lo := y.y_lo,y_len := y.y_len,y_cap := y.y_cap,out_r := y.out_r,nn := y.nn,xs := y.xs,ys := y.ys,left := y.left,bi_lo := y.bi_lo,bi_len := y.bi_len,bi_cap := y.bi_cap,bs_lo := y.bs_lo,bs_len := y.bs_len,bs_cap := y.bs_cap }) fun y => some { opn := y.opn,out_lo := y.out_lo,out_len := y.out_len,out_cap := y.out_cap,n := y.n,i := y.i,pi := y.pi,ps := y.ps,out := y.out,x_lo := y.x_lo,x_len := y.x_len,x_cap := y.x_cap,y_lo := y.y_lo,y_len := y.y_len,y_cap := y.y_cap,out_r := y.out_r,nn := y.nn,xs := y.xs,ys := y.ys,left := y.left,bi_lo := y.bi_lo,bi_len := y.bi_len,bi_cap := y.bi_cap,bs_lo := y.bs_lo,bs_len := y.bs_len,bs_cap := y.bs_cap }
theorem s1_eq (x : p1X) : rngRun EI1_0 39 C50 50 R1.rF (p1.R x) (p1.H x) (leaveK (endK 0 q1)) = s1 x := by kernel_rfl
noncomputable def l1 : LoopS := mkUnit 0 p1 q1 s1
theorem ti1 : topL C50 0 = [(0,C50.bodyAt 0),(1,C50.bodyAt 1)] := by kernel_rfl
theorem l1_ok : RngOkS Try.prog 64 0 R1.rF R1.rP R1.rA R1.rB l1 := mkRng_ok mixed (env_ok ty_ok cl_ok _) (fun hy => yi1_0 hy) s50 (by kernel_rfl) (fun hy => ti1 ▸ (AllL.cons rfl (i1_l0_ok hy) (AllL.cons rfl (i1_l1_ok hy) AllL.nil))) (fun _ => rfl) (fun _ => rfl) s1_eq
noncomputable def E1 : Env := ⟨ty,cfOf cl,lpOf [(1,l1)],none⟩
theorem u0 : rngs (C30.bodyAt 0) 1 = [(1,R1)] := by kernel_rfl
structure p0X where
 opn : Int
 out_lo : Nat
 out_len : Nat
 out_cap : Nat
 n : Int
 i : Int
 pi : List (Int)
 ps : List (Int)
 out : List ((List (Int)) × List (Int))
def p0 : Pt p0X where
 own := []
 t := ⟨[(1,.c (.ptr 0 0)),(5,.c (.it .i64)),(6,.c (.slc 3 0 2)),(32,.c (.it .i64)),(33,.c (.it .i64))],[.st [.arr (.int .u8),.arr (.int .u8)] 1 0,.st [.junk] 1 0,.st [.junk] 1 0,.arr (.pair (.sl (.int .u8)) (.sl (.int .u8))) 0]⟩
 to := fun v => ⟨v.1.2.1,v.1.2.2.1.1,v.1.2.2.1.2.1,v.1.2.2.1.2.2,v.1.2.2.2.1,v.1.2.2.2.2.1,v.2.1.1,v.2.1.2.1,v.2.2.2.2.1⟩
 fr := fun x => (((),(x.opn,((x.out_lo,x.out_len,x.out_cap),(x.n,(x.i,()))))),((x.pi,(x.ps,())),(((),()),(((),()),(x.out,())))))
structure q0X where
 out_lo : Nat
 out_len : Nat
 out_cap : Nat
 pi : List (Int)
 ps : List (Int)
 out : List ((List (Int)) × List (Int))
def q0 : Pt q0X where
 own := []
 t := ⟨[(6,.c (.slc 3 0 2))],[.st [.arr (.int .u8),.arr (.int .u8)] 1 0,.st [.junk] 1 0,.st [.junk] 1 0,.arr (.pair (.sl (.int .u8)) (.sl (.int .u8))) 0]⟩
 to := fun v => ⟨v.1.1.1,v.1.1.2.1,v.1.1.2.2,v.2.1.1,v.2.1.2.1,v.2.2.2.2.1⟩
 fr := fun x => (((x.out_lo,x.out_len,x.out_cap),()),((x.pi,(x.ps,())),(((),()),(((),()),(x.out,())))))
noncomputable def s0 (x : p0X) : Option (p0X ⊕ q0X) := bif decide (x.i < x.n) then bindO (M34.m { i := x.pi,s := x.ps }) fun y => bif inR x.i x.out_len then bif decide (x.out_lo + x.i.toNat < x.out.length) then bif inR x.i x.out_len then bif eqN (x.out_lo + x.i.toNat) (List.take (x.out_lo + x.i.toNat) x.out).length then bindO (M36o.m { i_lo := y.fst,i_len := y.snd.fst,i_cap := y.snd.snd.fst,s_lo := y.snd.snd.snd.fst,s_len := y.snd.snd.snd.snd.fst,s_cap := y.snd.snd.snd.snd.snd.fst,xs := y.snd.snd.snd.snd.snd.snd.fst,ys := y.snd.snd.snd.snd.snd.snd.snd }) fun y_1 => bindO (s1 { opn := x.opn,out_lo := x.out_lo,out_len := x.out_len,out_cap := x.out_cap,n := x.n,i := x.i,pi := x.pi,ps := x.ps,out := List.take (x.out_lo + x.i.toNat) x.out,x_lo := y.fst,x_len := y.snd.fst,x_cap := y.snd.snd.fst,y_lo := y.snd.snd.snd.fst,y_len := y.snd.snd.snd.snd.fst,y_cap := y.snd.snd.snd.snd.snd.fst,out_r := List.drop (x.out_lo + x.i.toNat + 1) x.out,nn := x.i,xs := y_1.fst,ys := y_1.snd.fst,left := x.opn,bi_lo := y_1.snd.snd.fst,bi_len := y_1.snd.snd.snd.fst,bi_cap := y_1.snd.snd.snd.snd.fst,bs_lo := y_1.snd.snd.snd.snd.snd.fst,bs_len := y_1.snd.snd.snd.snd.snd.snd.fst,bs_cap := y_1.snd.snd.snd.snd.snd.snd.snd }) fun y => bif leB (y.x_lo + y.x_len) y.xs.length && (leB (y.y_lo + y.y_len) y.ys.length && true) && true then some (Sum.inl { opn := y.opn,out_lo := y.out_lo,out_len := y.out_len,out_cap := y.out_cap,n := y.n,i := IntKind.i64.wrap (y.i + 1),pi := y.pi,ps := y.ps,out := y.out ++ (List.take y.x_len (List.drop y.x_lo y.xs),List.take y.y_len (List.drop y.y_lo y.ys)) :: y.out_r }) else none else none else none else none else none
else some (Sum.inr { out_lo := x.out_lo,out_len := x.out_len,out_cap := x.out_cap,pi := x.pi,ps := x.ps,out := x.out })
theorem s0_eq (x : p0X) : exec E1 64 (C30.bodyAt 0) 1 (p0.R x) (p0.H x) (roundK 0 p0 (.exit 0) q0) = s0 x := by kernel_rfl
noncomputable def l0 : LoopS := mkLoop 0 p0 (.exit 0) q0 s0
theorem tl0 : topL (C30.bodyAt 0) 1 = [] := by kernel_rfl
theorem l0_ok  : LoopOkS Try.prog 64 none 0 (C30.bodyAt 0) l0 := mkLoop_ok mixed (env_ok ty_ok cl_ok _) (by trivial) (fun _ => rfl) (fun _ => rfl) (tl0 ▸ AllL.nil) s0_eq (hg := RgOk.of rfl (u0 ▸ (AllR.cons rfl rfl l1_ok AllR.nil)))
noncomputable def E0 : Env := ⟨ty,cfOf cl,lpOf [(0,l0),(1,l1)],none⟩
noncomputable def m (x : gX) : Option fY := bindO (M29.m { i := x.i,s := x.s }) fun y => bif y != 0 then some ([],y) else bindO (M22.m { i := x.i,s := x.s }) fun y => bif decide (IntKind.i64.wrap (IntKind.i64.wrap ((↑x.i.length : Int) + (↑x.s.length : Int)) - y) > 12) then some ([],3) else bif decide (0 ≤ IntKind.i64.wrap (IntKind.i64.wrap ((↑x.i.length : Int) + (↑x.s.length : Int)) - y)) then bif decide (0 ≤ IntKind.i64.wrap (1 * 2 ^ min (IntKind.i64.wrap (IntKind.i64.wrap ((↑x.i.length : Int) + (↑x.s.length : Int)) - y)).toNat 64)) && decide (IntKind.i64.wrap (1 * 2 ^ min (IntKind.i64.wrap (IntKind.i64.wrap ((↑x.i.length : Int) + (↑x.s.length : Int)) - y)).toNat 64) ≤ IntKind.i64.wrap (1 * 2 ^ min (IntKind.i64.wrap (IntKind.i64.wrap ((↑x.i.length : Int) + (↑x.s.length : Int)) - y)).toNat 64)) && decide (IntKind.i64.wrap (1 * 2 ^ min (IntKind.i64.wrap (IntKind.i64.wrap ((↑x.i.length : Int) + (↑x.s.length : Int)) - y)).toNat 64) * (↑48 : Int) ≤ 281474976710656) && decide (IntKind.i64.wrap (1 * 2 ^ min (IntKind.i64.wrap (IntKind.i64.wrap ((↑x.i.length : Int) + (↑x.s.length : Int)) - y)).toNat 64) ≤ 9223372036854775807) then bindO (iter s0 { opn := IntKind.i64.wrap (IntKind.i64.wrap ((↑x.i.length : Int) + (↑x.s.length : Int)) - y),out_lo := 0,out_len := (IntKind.i64.wrap (1 * 2 ^ min (IntKind.i64.wrap (IntKind.i64.wrap ((↑x.i.length : Int) + (↑x.s.length : Int)) - y)).toNat 64)).toNat,out_cap := (IntKind.i64.wrap (1 * 2 ^ min (IntKind.i64.wrap (IntKind.i64.wrap ((↑x.i.length : Int) + (↑x.s.length : Int)) - y)).toNat 64)).toNat,n := (↑(IntKind.i64.wrap (1 * 2 ^ min (IntKind.i64.wrap (IntKind.i64.wrap ((↑x.i.length : Int) + (↑x.s.length : Int)) - y)).toNat 64)).toNat : Int),i := 0,pi := x.i,ps := x.s,out := List.replicate (IntKind.i64.wrap (1 * 2 ^ min (IntKind.i64.wrap (IntKind.i64.wrap ((↑x.i.length : Int) + (↑x.s.length : Int)) - y)).toNat 64)).toNat ([],[]) }) fun y => bif leB (y.out_lo + y.out_len) y.out.length && true && true && true then some (List.take y.out_len (List.drop y.out_lo y.out),0) else none else none else none
theorem m_eq (x : gX) : exec E0 64 C30 0 (initS 0 (g.A x)) (g.H x) (finish 0 ty [.tmp 2,.tmp 3] f) = m x := by kernel_rfl
theorem tl : topL C30 0 = [(0,C30.bodyAt 0)] := by kernel_rfl
theorem known : Known Try.prog 30 g f m :=
 mk_known mixed (env_ok ty_ok cl_ok _) s30 rfl rfl tl (AllL.cons rfl l0_ok AllL.nil) (fun _ _ => ⟨rfl,rfl⟩) (fun _ _ => ⟨rfl,rfl⟩) m_eq
noncomputable def con : Con := conT g f m default
theorem con_ok : ConOk Try.prog 30 con := conT_ok known (fun _ => rfl) rfl
end M30
end Go.Proofs.Ytnmlmdlhhphcoaa
