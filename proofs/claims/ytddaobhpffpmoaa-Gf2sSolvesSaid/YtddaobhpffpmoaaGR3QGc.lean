/-
  What the proof stands on.
-/
import Derived.Test.YtddaobhpffpmoaaGR3QGa
import Derived.Test.YtddaobhpffpmoaaGR3QGj
import Derived.Test.YtddaobhpffpmoaaGR3QGb
set_option linter.all false
namespace Go.Proofs.Ytddaobhpffpmoaa
open Go.Abs
set_option maxRecDepth 100000
namespace M30
structure gX where
 n : Int
 w : List (Int)
 l : List (Int)
def g : Sg gX where
 vs := [.agg [.it .i64,.arr (.int .u64)],.c (.arr (.int .u8))]
 h := []
 to := fun a b => ⟨a.1.1,a.1.2.1,a.2.1⟩
 fa := fun x => ((x.n,(x.w,())),(x.l,()))
 fh := fun x => ()
abbrev fY := Bool
def f : Ft fY where
 ord := none
 sh := .c (.bo)
 h := []
 to := fun a b => (a)
 fv := fun y => y
 fh := fun y => ()
noncomputable def cl : List (FuncId × Con) := [(38,M38.con),(32,M32.con),(78,M78.con)]
theorem cl_ok : allCon Try.prog cl := ⟨M38.con_ok,M32.con_ok,M78.con_ok,trivial⟩
noncomputable def E0 : Env := ⟨ty,cfOf cl,fun _ => none,none⟩
noncomputable def m (x : gX) : Option fY := bindO (M38.m ⟨x.n,x.w⟩) fun y => bindO (bif bif y == 0 then x.n == (↑x.l.length : Int) else false then M32.m ⟨x.n,x.w⟩ else some []) fun y_1 => bindO (bif bif y == 0 then x.n == (↑x.l.length : Int) else false then M78.m ⟨x.l⟩ else some []) fun y_2 => some (bif bif y == 0 then x.n == (↑x.l.length : Int) else false then y_1 == y_2 else false)
theorem m_eq (x : gX) : exec E0 22 C30 0 (initS 0 (g.A x)) (g.H x) (finish 0 ty [.tmp 4] f) = m x := by kernel_rfl
theorem tl : topL C30 0 = [] := by kernel_rfl
theorem known : Known Try.prog 30 g f m :=
 mk_known mixed (env_ok ty_ok cl_ok _) s30 rfl rfl tl AllL.nil (fun _ _ => ⟨rfl,rfl⟩) (fun _ _ => ⟨rfl,rfl⟩) m_eq
noncomputable def con : Con := conT g f m default
theorem con_ok : ConOk Try.prog 30 con := conT_ok known (fun _ => rfl) rfl
end M30
end Go.Proofs.Ytddaobhpffpmoaa
namespace Go.Proofs.Ytddaobhpffpmoaa
open Go.Abs
set_option maxRecDepth 100000
namespace M19
abbrev gX := Unit
def g : Sg gX where
 vs := []
 h := []
 to := fun a b => ()
 fa := fun x => ()
 fh := fun x => ()
abbrev fY := Bool
def f : Ft fY where
 ord := none
 sh := .c (.bo)
 h := []
 to := fun a b => (a)
 fv := fun y => y
 fh := fun y => ()
noncomputable def cl : List (FuncId × Con) := [(24,M24.con),(28,M28.con),(33,M33.con),(29,M29.con),(40,M40.con),(26,M26.con),(25,M25.con),(22,M22.con),(22,M22j.conR),(32,M32.con),(36,M36.con),(47,M47g.con),(46,M46.con),(46,M46.conR),(52,M52.con),(51,M51t.con)]
theorem cl_ok : allCon Try.prog cl := ⟨M24.con_ok,M28.con_ok,M33.con_ok,M29.con_ok,M40.con_ok,M26.con_ok,M25.con_ok,M22.con_ok,M22j.conR_ok,M32.con_ok,M36.con_ok,M47g.con_ok,M46.con_ok,M46.conR_ok,M52.con_ok,M51t.con_ok,trivial⟩
noncomputable def E0 : Env := ⟨ty,cfOf cl,fun _ => none,none⟩
noncomputable def m (x : gX) : Option fY := bindO (M24.m ⟨[1,1,0]⟩) fun y => bindO (M24.m ⟨[0,1,1]⟩) fun y_1 => bindO (M28.m ⟨y.fst,y.snd,y_1.fst,y_1.snd⟩) fun y_2 => bindO (M33.m ⟨y.fst,y.snd,y_1.fst,y_1.snd⟩) fun y_3 => bindO (M24.m ⟨[1,0,1]⟩) fun y_4 => bindO (M29.m ⟨3,[(y.fst,y.snd),(y_1.fst,y_1.snd)],y_4.fst,y_4.snd⟩) fun y_5 => bindO (M40.m ⟨3,[(y.fst,y.snd),(y_1.fst,y_1.snd)]⟩) fun y_6 => bindO (M26.m ⟨3,[(y.fst,y.snd),(y_1.fst,y_1.snd)]⟩) fun y_7 => bindO (M25.m ⟨3,[(y.fst,y.snd),(y_1.fst,y_1.snd)]⟩) fun y_8 => bindO (M24.m ⟨[1,0]⟩) fun y_9 => bindO (M22.m ⟨3,[(y.fst,y.snd),(y_1.fst,y_1.snd)],y_9.fst,y_9.snd⟩) fun y => bindO (M24.m ⟨[1,0,1]⟩) fun y_10 => bindO (M32.m ⟨y_10.fst,y_10.snd⟩) fun y_11 => bindO (bif !bif !y_11 == [49,48,49] then true else y_2.snd.snd != 0 then M32.m ⟨y_2.fst,y_2.snd.fst⟩ else some []) fun y_12 => bif !bif bif bif bif !y_11 == [49,48,49] then true else y_2.snd.snd != 0 then true else !y_12 == [49,48,49] then true else y_3.snd != 0 then true else y_3.fst != 1 then bindO (M24.m ⟨[1,0,1,1]⟩) fun y_13 => bindO (M36.m ⟨y_13.fst,y_13.snd⟩) fun y_14 => bindO (bif !bif y_14 != 3 then true else y_5.snd.snd != 0 then M32.m ⟨y_5.fst,y_5.snd.fst⟩ else some []) fun y_15 => bif inR 1 y_6.snd.fst.length || !!bif bif bif bif y_14 != 3 then true else y_5.snd.snd != 0 then true else !y_15 == [49,49] then true else y_6.snd.snd != 0 then true else (↑y_6.snd.fst.length : Int) != 3 then bindO (bif !bif bif bif bif y_14 != 3 then true else y_5.snd.snd != 0 then true else !y_15 == [49,49] then true else y_6.snd.snd != 0 then true else (↑y_6.snd.fst.length : Int) != 3 then M32.m ⟨(y_6.snd.fst[1]?.getD (0,[])).fst,(y_6.snd.fst[1]?.getD (0,[])).snd⟩ else some []) fun y_16 => bif inR 0 y_8.fst.length || !!bif bif bif bif bif bif bif bif bif y_14 != 3 then true else y_5.snd.snd != 0 then true else !y_15 == [49,49] then true else y_6.snd.snd != 0 then true else (↑y_6.snd.fst.length : Int) != 3 then true else !y_16 == [49,49] then true else y_7.snd != 0 then true else y_7.fst != 2 then true else y_8.snd != 0 then true else (↑y_8.fst.length : Int) != 1 then bindO (bif !bif bif bif bif bif bif bif bif bif y_14 != 3 then true else y_5.snd.snd != 0 then true else !y_15 == [49,49] then true else y_6.snd.snd != 0 then true else (↑y_6.snd.fst.length : Int) != 3 then true else !y_16 == [49,49] then true else y_7.snd != 0 then true else y_7.fst != 2 then true else y_8.snd != 0 then true else (↑y_8.fst.length : Int) != 1 then M32.m ⟨(y_8.fst[0]?.getD (0,[])).fst,(y_8.fst[0]?.getD (0,[])).snd⟩ else some []) fun y_17 => bindO (bif !bif bif bif bif bif bif bif bif bif bif bif y_14 != 3 then true else y_5.snd.snd != 0 then true else !y_15 == [49,49] then true else y_6.snd.snd != 0 then true else (↑y_6.snd.fst.length : Int) != 3 then true else !y_16 == [49,49] then true else y_7.snd != 0 then true else y_7.fst != 2 then true else y_8.snd != 0 then true else (↑y_8.fst.length : Int) != 1 then true else !y_17 == [49,49,49] then true else y.snd.snd != 0 then M32.m ⟨y.fst,y.snd.fst⟩ else some []) fun y_18 => bif bif bif bif bif bif bif bif bif bif bif bif bif y_14 != 3 then true else y_5.snd.snd != 0 then true else !y_15 == [49,49] then true else y_6.snd.snd != 0 then true else (↑y_6.snd.fst.length : Int) != 3 then true else !y_16 == [49,49] then true else y_7.snd != 0 then true else y_7.fst != 2 then true else y_8.snd != 0 then true else (↑y_8.fst.length : Int) != 1 then true else !y_17 == [49,49,49] then true else y.snd.snd != 0 then true else !y_18 == [49,48,48] then some false else bindO (M24.m ⟨[1,1]⟩) fun y => bindO (M24.m ⟨[1,1]⟩) fun y_19 => bindO (M24.m ⟨[1,0]⟩) fun y_20 => bindO (M22j.m ⟨2,List.take 2 (List.drop 0 [(y.fst,y.snd),(y_19.fst,y_19.snd)]),y_20.fst,y_20.snd⟩) fun y_21 => bindO (M24.m ⟨[0,1]⟩) fun y_22 => bif decide (1 < 2) then bindO (M47g.m ⟨2,0,2,2,[(y.fst,y.snd),(y_19.fst,y_19.snd)].set 1 (y_22.fst,y_22.snd)⟩) fun y => bindO (M52.m ⟨[2]⟩) fun y_23 => bindO (M51t.m ⟨-1⟩) fun y_24 => bindO (M51t.m ⟨4097⟩) fun y_25 => bindO (bif bif y_21 == 9 then y.snd.snd.fst == 0 else false then bif leB 2 y.snd.snd.snd.length && true && true then M46.m ⟨y.fst,y.snd.fst,2,List.take 2 (List.drop 0 y.snd.snd.snd)⟩ else none else some false) fun y_26 => some (bif bif bif bif bif y_21 == 9 then y.snd.snd.fst == 0 else false then y_26 else false then y_23.snd.snd == 1 else false then y_24.snd.snd == 1 else false then y_25.snd.snd == 3 else false) else none else none else none else bindO (some ([] : List UInt8)) fun y => bif inR 1 y_6.snd.fst.length || true then bindO (some ([] : List UInt8)) fun y => bif inR 0 y_8.fst.length || true then bindO (some ([] : List UInt8)) fun y => bindO (some ([] : List UInt8)) fun y => some false else none else none
theorem m_eq (x : gX) : exec E0 224 C19 0 (initS 0 (g.A x)) (g.H x) (finish 0 ty [.tmp 0] f) = m x := by kernel_rfl
theorem tl : topL C19 0 = [] := by kernel_rfl
theorem known : Known Try.prog 19 g f m :=
 mk_known mixed (env_ok ty_ok cl_ok _) s19 rfl rfl tl AllL.nil (fun _ _ => ⟨rfl,rfl⟩) (fun _ _ => ⟨rfl,rfl⟩) m_eq
noncomputable def con : Con := conT g f m default
theorem con_ok : ConOk Try.prog 19 con := conT_ok known (fun _ => rfl) rfl
end M19
end Go.Proofs.Ytddaobhpffpmoaa
namespace Go.Proofs.Ytddaobhpffpmoaa
open Go.Abs
set_option maxRecDepth 100000
namespace M31
structure gX where
 n : Int
 w : List (Int)
 l : List ((Int) × List (Int))
 k : Int
def g : Sg gX where
 vs := [.agg [.it .i64,.arr (.int .u64)],.c (.arr (.pair (.int .i64) (.sl (.int .u64)))),.c (.it .i64)]
 h := []
 to := fun a b => ⟨a.1.1,a.1.2.1,a.2.1,a.2.2.1⟩
 fa := fun x => ((x.n,(x.w,())),(x.l,(x.k,())))
 fh := fun x => ()
abbrev fY := List UInt8
def f : Ft fY where
 ord := none
 sh := .c (.sg)
 h := []
 to := fun a b => (a)
 fv := fun y => y
 fh := fun y => ()
noncomputable def cl : List (FuncId × Con) := [(28,M28.con),(32,M32.con)]
theorem cl_ok : allCon Try.prog cl := ⟨M28.con_ok,M32.con_ok,trivial⟩
noncomputable def E1 : Env := ⟨ty,cfOf cl,fun _ => none,none⟩
structure p0X where
 l : List ((Int) × List (Int))
 k : Int
 i : Int
 n : Int
 w : List (Int)
def p0 : Pt p0X where
 own := []
 t := ⟨[(1,.c (.arr (.pair (.int .i64) (.sl (.int .u64))))),(2,.c (.it .i64)),(3,.c (.ptr 0 0)),(7,.c (.it .i64))],[.st [.it .i64,.arr (.int .u64)] 1 0]⟩
 to := fun v => ⟨v.1.1,v.1.2.1,v.1.2.2.2.1,v.2.1.1,v.2.1.2.1⟩
 fr := fun x => ((x.l,(x.k,((),(x.i,())))),((x.n,(x.w,())),()))
structure q0X where
 n : Int
 w : List (Int)
def q0 : Pt q0X where
 own := []
 t := ⟨[(3,.c (.ptr 0 0))],[.st [.it .i64,.arr (.int .u64)] 1 0]⟩
 to := fun v => ⟨v.2.1.1,v.2.1.2.1⟩
 fr := fun x => (((),()),((x.n,(x.w,())),()))
noncomputable def s0 (x : p0X) : Option (p0X ⊕ q0X) := bif decide (x.i < (↑x.l.length : Int)) then bif decide (0 ≤ x.i) then bif IntKind.i64.wrap (↑(BitVec.ofInt 64 (x.k.fdiv (2 ^ min x.i.toNat 64)) &&& BitVec.ofInt 64 1).toNat : Int) == 1 then bif inR x.i x.l.length then bindO (M28.m ⟨x.n,x.w,(x.l[x.i.toNat]?.getD (0,[])).fst,(x.l[x.i.toNat]?.getD (0,[])).snd⟩) fun y => some (Sum.inl ⟨x.l,x.k,IntKind.i64.wrap (x.i + 1),y.fst,y.snd.fst⟩) else none else some (Sum.inl ⟨x.l,x.k,IntKind.i64.wrap (x.i + 1),x.n,x.w⟩) else none else some (Sum.inr ⟨x.n,x.w⟩)
theorem s0_eq (x : p0X) : exec E1 30 (C31.bodyAt 0) 1 (p0.R x) (p0.H x) (roundK 0 p0 (.exit 0) q0) = s0 x := by kernel_rfl
noncomputable def l0 : LoopS := mkLoop 0 p0 (.exit 0) q0 s0
theorem tl0 : topL (C31.bodyAt 0) 1 = [] := by kernel_rfl
theorem l0_ok  : LoopOkS Try.prog 30 none 0 (C31.bodyAt 0) l0 := mkLoop_ok mixed (env_ok ty_ok cl_ok _) (by trivial) (fun _ => rfl) (fun _ => rfl) (tl0 ▸ AllL.nil) s0_eq
noncomputable def E0 : Env := ⟨ty,cfOf cl,lpOf [(0,l0)],none⟩
noncomputable def m (x : gX) : Option fY := bindO (iter s0 ⟨x.l,x.k,0,x.n,x.w⟩) fun y => bindO (M32.m ⟨y.n,y.w⟩) fun y => some y
theorem m_eq (x : gX) : exec E0 30 C31 0 (initS 0 (g.A x)) (g.H x) (finish 0 ty [.tmp 6] f) = m x := by kernel_rfl
theorem tl : topL C31 0 = [(0,C31.bodyAt 0)] := by kernel_rfl
theorem known : Known Try.prog 31 g f m :=
 mk_known mixed (env_ok ty_ok cl_ok _) s31 rfl rfl tl (AllL.cons rfl l0_ok AllL.nil) (fun _ _ => ⟨rfl,rfl⟩) (fun _ _ => ⟨rfl,rfl⟩) m_eq
noncomputable def con : Con := conT g f m default
theorem con_ok : ConOk Try.prog 31 con := conT_ok known (fun _ => rfl) rfl
end M31
end Go.Proofs.Ytddaobhpffpmoaa
namespace Go.Proofs.Ytddaobhpffpmoaa
open Go.Abs
set_option maxRecDepth 100000
namespace M27
structure gX where
 m : List (List (Int))
 c : Int
 b : List (Int)
def g : Sg gX where
 vs := [.c (.arr (.sl (.int .u8))),.c (.it .i64),.c (.arr (.int .u8))]
 h := []
 to := fun a b => ⟨a.1,a.2.1,a.2.2.1⟩
 fa := fun x => (x.m,(x.c,(x.b,())))
 fh := fun x => ()
abbrev fY := List (List (Int))
def f : Ft fY where
 ord := none
 sh := .c (.arr (.sl (.int .u8)))
 h := []
 to := fun a b => (a)
 fv := fun y => y
 fh := fun y => ()
noncomputable def cl : List (FuncId × Con) := [(44,M44.con),(78,M78.con)]
theorem cl_ok : allCon Try.prog cl := ⟨M44.con_ok,M78.con_ok,trivial⟩
noncomputable def E2 : Env := ⟨ty,cfOf cl,fun _ => none,none⟩
structure p1X where
 m : List (List (Int))
 c : Int
 b : List (Int)
 out_lo : Nat
 out_len : Nat
 n : Int
 x_lo : Nat
 x_len : Nat
 i : Int
 out : List (List (Int))
 x : List (Int)
def p1 : Pt p1X where
 own := [.reg 9 (.int .u8)]
 t := ⟨[(0,.c (.arr (.sl (.int .u8)))),(1,.c (.it .i64)),(2,.c (.arr (.int .u8))),(7,.c (.sl 0 0 1)),(8,.c (.it .i64)),(9,.c (.sl 1 0 1)),(10,.c (.it .i64))],[.arr (.sl (.int .u8)) 0,.arr (.int .u8) 0]⟩
 to := fun v => ⟨v.1.1,v.1.2.1,v.1.2.2.1,v.1.2.2.2.1.1,v.1.2.2.2.1.2,v.1.2.2.2.2.1,v.1.2.2.2.2.2.1.1,v.1.2.2.2.2.2.1.2,v.1.2.2.2.2.2.2.1,v.2.1,v.2.2.1⟩
 fr := fun x => ((x.m,(x.c,(x.b,((x.out_lo,x.out_len),(x.n,((x.x_lo,x.x_len),(x.i,()))))))),(x.out,(x.x,())))
structure q1X where
 m : List (List (Int))
 c : Int
 b : List (Int)
 out_lo : Nat
 out_len : Nat
 n : Int
 x : List (Int)
 out : List (List (Int))
def q1 : Pt q1X where
 own := []
 t := ⟨[(0,.c (.arr (.sl (.int .u8)))),(1,.c (.it .i64)),(2,.c (.arr (.int .u8))),(7,.c (.sl 0 0 1)),(8,.c (.it .i64)),(9,.c (.arr (.int .u8)))],[.arr (.sl (.int .u8)) 0]⟩
 to := fun v => ⟨v.1.1,v.1.2.1,v.1.2.2.1,v.1.2.2.2.1.1,v.1.2.2.2.1.2,v.1.2.2.2.2.1,v.1.2.2.2.2.2.1,v.2.1⟩
 fr := fun x => ((x.m,(x.c,(x.b,((x.out_lo,x.out_len),(x.n,(x.x,())))))),(x.out,()))
noncomputable def s1 (x : p1X) : Option (p1X ⊕ q1X) := bif decide (x.i < x.c) then bif decide (0 ≤ x.i) then bif eqN x.x_lo 0 && eqN x.x.length x.x_len && roomB (x.x_len + 1) 1 then some (Sum.inl ⟨x.m,x.c,x.b,x.out_lo,x.out_len,x.n,0,x.x_len + 1,IntKind.i64.wrap (x.i + 1),x.out,x.x ++ [IntKind.u8.wrap (IntKind.i64.wrap (↑(BitVec.ofInt 64 (x.n.fdiv (2 ^ min x.i.toNat 64)) &&& BitVec.ofInt 64 1).toNat : Int))]⟩) else none else none else bif leB (x.x_lo + x.x_len) x.x.length && true && true then some (Sum.inr ⟨x.m,x.c,x.b,x.out_lo,x.out_len,x.n,List.take x.x_len (List.drop x.x_lo x.x),x.out⟩) else none
theorem s1_eq (x : p1X) : exec E2 42 (C27.bodyAt 1) 2 (p1.R x) (p1.H x) (roundK 0 p1 (.exit 2) q1) = s1 x := by kernel_rfl
noncomputable def l1 : LoopS := mkLoop 0 p1 (.exit 2) q1 s1
theorem tl1 : topL (C27.bodyAt 1) 2 = [] := by kernel_rfl
theorem l1_ok  : LoopOkS Try.prog 42 none 0 (C27.bodyAt 1) l1 := mkLoop_ok mixed (env_ok ty_ok cl_ok _) (by trivial) (fun _ => rfl) (fun _ => rfl) (tl1 ▸ AllL.nil) s1_eq
noncomputable def E1 : Env := ⟨ty,cfOf cl,lpOf [(1,l1)],none⟩
structure p0X where
 m : List (List (Int))
 c : Int
 b : List (Int)
 out_lo : Nat
 out_len : Nat
 n : Int
 out : List (List (Int))
def p0 : Pt p0X where
 own := [.reg 7 (.sl (.int .u8))]
 t := ⟨[(0,.c (.arr (.sl (.int .u8)))),(1,.c (.it .i64)),(2,.c (.arr (.int .u8))),(7,.c (.sl 0 0 1)),(8,.c (.it .i64))],[.arr (.sl (.int .u8)) 0]⟩
 to := fun v => ⟨v.1.1,v.1.2.1,v.1.2.2.1,v.1.2.2.2.1.1,v.1.2.2.2.1.2,v.1.2.2.2.2.1,v.2.1⟩
 fr := fun x => ((x.m,(x.c,(x.b,((x.out_lo,x.out_len),(x.n,()))))),(x.out,()))
structure q0X where
 out_lo : Nat
 out_len : Nat
 out : List (List (Int))
def q0 : Pt q0X where
 own := []
 t := ⟨[(7,.c (.sl 0 0 1))],[.arr (.sl (.int .u8)) 0]⟩
 to := fun v => ⟨v.1.1.1,v.1.1.2,v.2.1⟩
 fr := fun x => (((x.out_lo,x.out_len),()),(x.out,()))
noncomputable def s0 (x : p0X) : Option (p0X ⊕ q0X) := bif decide (0 ≤ x.c) then bif decide (x.n < IntKind.i64.wrap (1 * 2 ^ min x.c.toNat 64)) then bindO (iter s1 ⟨x.m,x.c,x.b,x.out_lo,x.out_len,x.n,0,0,0,x.out,[]⟩) fun y => bindO (M44.m ⟨y.m,y.x⟩) fun y_1 => bindO (M78.m ⟨y_1⟩) fun y_2 => bindO (M78.m ⟨y.b⟩) fun y_3 => bif y_2 == y_3 then bif eqN y.out_lo 0 && eqN y.out.length y.out_len && roomB (y.out_len + 1) 24 then some (Sum.inl ⟨y.m,y.c,y.b,0,y.out_len + 1,IntKind.i64.wrap (y.n + 1),y.out ++ [y.x]⟩) else none else some (Sum.inl ⟨y.m,y.c,y.b,y.out_lo,y.out_len,IntKind.i64.wrap (y.n + 1),y.out⟩) else some (Sum.inr ⟨x.out_lo,x.out_len,x.out⟩) else none
theorem s0_eq (x : p0X) : exec E1 42 (C27.bodyAt 0) 1 (p0.R x) (p0.H x) (roundK 0 p0 (.exit 0) q0) = s0 x := by kernel_rfl
noncomputable def l0 : LoopS := mkLoop 0 p0 (.exit 0) q0 s0
theorem tl0 : topL (C27.bodyAt 0) 1 = [(1,C27.bodyAt 1)] := by kernel_rfl
theorem l0_ok  : LoopOkS Try.prog 42 none 0 (C27.bodyAt 0) l0 := mkLoop_ok mixed (env_ok ty_ok cl_ok _) (by trivial) (fun _ => rfl) (fun _ => rfl) (tl0 ▸ (AllL.cons rfl l1_ok AllL.nil)) s0_eq
noncomputable def E0 : Env := ⟨ty,cfOf cl,lpOf [(0,l0),(1,l1)],none⟩
noncomputable def m (x : gX) : Option fY := bindO (iter s0 ⟨x.m,x.c,x.b,0,0,0,[]⟩) fun y => bif leB (y.out_lo + y.out_len) y.out.length && true && true then some (List.take y.out_len (List.drop y.out_lo y.out)) else none
theorem m_eq (x : gX) : exec E0 42 C27 0 (initS 0 (g.A x)) (g.H x) (finish 0 ty [.tmp 6] f) = m x := by kernel_rfl
theorem tl : topL C27 0 = [(0,C27.bodyAt 0)] := by kernel_rfl
theorem known : Known Try.prog 27 g f m :=
 mk_known mixed (env_ok ty_ok cl_ok _) s27 rfl rfl tl (AllL.cons rfl l0_ok AllL.nil) (fun _ _ => ⟨rfl,rfl⟩) (fun _ _ => ⟨rfl,rfl⟩) m_eq
noncomputable def con : Con := conT g f m default
theorem con_ok : ConOk Try.prog 27 con := conT_ok known (fun _ => rfl) rfl
end M27
end Go.Proofs.Ytddaobhpffpmoaa
