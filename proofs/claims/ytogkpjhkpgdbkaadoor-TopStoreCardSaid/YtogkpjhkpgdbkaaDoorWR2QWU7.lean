/-
  The functions that TopStore reaches, run on symbolic values.
-/
import Derived.Test.YtogkpjhkpgdbkaaDoorWR2QWu
import Derived.Test.YtogkpjhkpgdbkaaDoorWR2QWa
set_option linter.all false
namespace Go.Proofs.YtogkpjhkpgdbkaaDoor
open Go.Abs
set_option maxRecDepth 100000
namespace M3
structure gX where
 start : Int
 l : List ((Bool) × (Int) × Int)
def g : Sg gX where
 vs := [.c (.it .u16),.c (.arr (.pair .bool (.pair (.int .u8) (.int .u8))))]
 h := []
 to := fun a b => ⟨a.1,a.2.1⟩
 fa := fun x => (x.start,(x.l,()))
 fh := fun x => ()
abbrev fY := Bool
def f : Ft fY where
 ord := none
 sh := .c (.bo)
 h := []
 to := fun a b => (a)
 fv := fun y => y
 fh := fun y => ()
noncomputable def cl : List (FuncId × Con) := [(4,M4.con),(5,M5.con),(6,M6.con),(7,M7.con),(8,M8.con),(9,M9.con)]
theorem cl_ok : allCon Tryd.prog cl := ⟨M4.con_ok,M5.con_ok,M6.con_ok,M7.con_ok,M8.con_ok,M9.con_ok,trivial⟩
noncomputable def E2 : Env := ⟨ty,cfOf cl,fun _ => none,none⟩
structure p1X where
 l : List ((Bool) × (Int) × Int)
 words : List (List (Int))
 i : Int
 mcls : Int
 mcell : Int
 mother : Int
 cells_lo : Nat
 cells_len : Nat
 intact : Bool
 zs : List (Int)
def p1 : Pt p1X where
 own := []
 t := ⟨[(1,.c (.arr (.pair .bool (.pair (.int .u8) (.int .u8))))),(6,.c (.arr (.sl (.int .u8)))),(9,.c (.ptr 0 0)),(11,.c (.it .i64))],[.st [.it .u8,.it .i64,.it .i64,.sl 1 0 1,.bo] 1 0,.arr (.int .u8) 0]⟩
 to := fun v => ⟨v.1.1,v.1.2.1,v.1.2.2.2.1,v.2.1.1,v.2.1.2.1,v.2.1.2.2.1,v.2.1.2.2.2.1.1,v.2.1.2.2.2.1.2,v.2.1.2.2.2.2.1,v.2.2.1⟩
 fr := fun x => ((x.l,(x.words,((),(x.i,())))),((x.mcls,(x.mcell,(x.mother,((x.cells_lo,x.cells_len),(x.intact,()))))),(x.zs,())))
abbrev q1X := Unit
def q1 : Pt q1X where
 own := []
 t := ⟨[],[]⟩
 to := fun v => ()
 fr := fun x => ((),())
structure z1X where
 r : Bool
def z1 : Pt z1X where
 own := []
 t := ⟨[(4,.c (.bo))],[]⟩
 to := fun v => ⟨v.1.1⟩
 fr := fun x => ((x.r,()),())
noncomputable def s1 (x : p1X) : Option (p1X ⊕ (q1X ⊕ z1X)) := bif decide (x.i < (↑x.l.length : Int)) then bif inR x.i x.l.length then bif inR x.i x.l.length then bif inR x.i x.l.length then bif (x.l[x.i.toNat]?.getD (false,0,0)).fst then bindO (M6.m { addr := IntKind.i64.wrap (Int.tmod (x.l[x.i.toNat]?.getD (false,0,0)).snd.fst 8),v := Int.tmod (x.l[x.i.toNat]?.getD (false,0,0)).snd.snd 2,cls := x.mcls,cell := x.mcell,other := x.mother,cells_lo := x.cells_lo,cells_len := x.cells_len,intact := x.intact,xs := x.zs }) fun y => bindO (M7.m { words := x.words,addr := [IntKind.u8.wrap (IntKind.i64.wrap (↑(BitVec.ofInt 64 (IntKind.i64.wrap (Int.tmod (x.l[x.i.toNat]?.getD (false,0,0)).snd.fst 8)) &&& BitVec.ofInt 64 1).toNat : Int)),IntKind.u8.wrap (IntKind.i64.wrap (↑(BitVec.ofInt 64 ((IntKind.i64.wrap (Int.tmod (x.l[x.i.toNat]?.getD (false,0,0)).snd.fst 8)).fdiv (2 ^ 1)) &&& BitVec.ofInt 64 1).toNat : Int)),IntKind.u8.wrap (IntKind.i64.wrap (↑(BitVec.ofInt 64 ((IntKind.i64.wrap (Int.tmod (x.l[x.i.toNat]?.getD (false,0,0)).snd.fst 8)).fdiv (2 ^ 2)) &&& BitVec.ofInt 64 1).toNat : Int))],data := [Int.tmod (x.l[x.i.toNat]?.getD (false,0,0)).snd.snd 2],en := 1 }) fun y_1 => bindO (M8.m { addr := IntKind.i64.wrap (Int.tmod (x.l[x.i.toNat]?.getD (false,0,0)).snd.fst 8),cls := y.snd.fst,cell := y.snd.snd.fst,other := y.snd.snd.snd.fst,cells_lo := y.snd.snd.snd.snd.fst,cells_len := y.snd.snd.snd.snd.snd.fst,intact := y.snd.snd.snd.snd.snd.snd.fst,xs := y.snd.snd.snd.snd.snd.snd.snd }) fun y => bindO (M9.m { words := y_1,addr := [IntKind.u8.wrap (IntKind.i64.wrap (↑(BitVec.ofInt 64 (IntKind.i64.wrap (Int.tmod (x.l[x.i.toNat]?.getD (false,0,0)).snd.fst 8)) &&& BitVec.ofInt 64 1).toNat : Int)),IntKind.u8.wrap (IntKind.i64.wrap (↑(BitVec.ofInt 64 ((IntKind.i64.wrap (Int.tmod (x.l[x.i.toNat]?.getD (false,0,0)).snd.fst 8)).fdiv (2 ^ 1)) &&& BitVec.ofInt 64 1).toNat : Int)),IntKind.u8.wrap (IntKind.i64.wrap (↑(BitVec.ofInt 64 ((IntKind.i64.wrap (Int.tmod (x.l[x.i.toNat]?.getD (false,0,0)).snd.fst 8)).fdiv (2 ^ 2)) &&& BitVec.ofInt 64 1).toNat : Int))] }) fun y_2 => bif inR 0 (List.length y_2) || !!bif bif y.snd.fst != 0 then true else (↑(List.length y_1) : Int) != 8 then true else (↑(List.length y_2) : Int) != 1 then bif bif bif bif y.snd.fst != 0 then true else (↑(List.length y_1) : Int) != 8 then true else (↑(List.length y_2) : Int) != 1 then true else y_2[0]?.getD 0 != y.fst then some (Sum.inr (Sum.inr { r := false })) else some (Sum.inl { l := x.l,words := y_1,i := IntKind.i64.wrap (x.i + 1),mcls := y.snd.snd.fst,mcell := y.snd.snd.snd.fst,mother := y.snd.snd.snd.snd.fst,cells_lo := y.snd.snd.snd.snd.snd.fst,cells_len := y.snd.snd.snd.snd.snd.snd.fst,intact := y.snd.snd.snd.snd.snd.snd.snd.fst,zs := y.snd.snd.snd.snd.snd.snd.snd.snd }) else none else bindO (M7.m { words := x.words,addr := [IntKind.u8.wrap (IntKind.i64.wrap (↑(BitVec.ofInt 64 (IntKind.i64.wrap (Int.tmod (x.l[x.i.toNat]?.getD (false,0,0)).snd.fst 8)) &&& BitVec.ofInt 64 1).toNat : Int)),IntKind.u8.wrap (IntKind.i64.wrap (↑(BitVec.ofInt 64 ((IntKind.i64.wrap (Int.tmod (x.l[x.i.toNat]?.getD (false,0,0)).snd.fst 8)).fdiv (2 ^ 1)) &&& BitVec.ofInt 64 1).toNat : Int)),IntKind.u8.wrap (IntKind.i64.wrap (↑(BitVec.ofInt 64 ((IntKind.i64.wrap (Int.tmod (x.l[x.i.toNat]?.getD (false,0,0)).snd.fst 8)).fdiv (2 ^ 2)) &&& BitVec.ofInt 64 1).toNat : Int))],data := [Int.tmod (x.l[x.i.toNat]?.getD (false,0,0)).snd.snd 2],en := 0 }) fun y => bindO (M8.m { addr := IntKind.i64.wrap (Int.tmod (x.l[x.i.toNat]?.getD (false,0,0)).snd.fst 8),cls := x.mcls,cell := x.mcell,other := x.mother,cells_lo := x.cells_lo,cells_len := x.cells_len,intact := x.intact,xs := x.zs }) fun y_1 => bindO (M9.m { words := y,addr := [IntKind.u8.wrap (IntKind.i64.wrap (↑(BitVec.ofInt 64 (IntKind.i64.wrap (Int.tmod (x.l[x.i.toNat]?.getD (false,0,0)).snd.fst 8)) &&& BitVec.ofInt 64 1).toNat : Int)),IntKind.u8.wrap (IntKind.i64.wrap (↑(BitVec.ofInt 64 ((IntKind.i64.wrap (Int.tmod (x.l[x.i.toNat]?.getD (false,0,0)).snd.fst 8)).fdiv (2 ^ 1)) &&& BitVec.ofInt 64 1).toNat : Int)),IntKind.u8.wrap (IntKind.i64.wrap (↑(BitVec.ofInt 64 ((IntKind.i64.wrap (Int.tmod (x.l[x.i.toNat]?.getD (false,0,0)).snd.fst 8)).fdiv (2 ^ 2)) &&& BitVec.ofInt 64 1).toNat : Int))] }) fun y_2 => bif inR 0 (List.length y_2) || !!bif bif y_1.snd.fst != 0 then true else (↑(List.length y) : Int) != 8 then true else (↑(List.length y_2) : Int) != 1 then bif bif bif bif y_1.snd.fst != 0 then true else (↑(List.length y) : Int) != 8 then true else (↑(List.length y_2) : Int) != 1 then true else y_2[0]?.getD 0 != y_1.fst then some (Sum.inr (Sum.inr { r := false })) else some (Sum.inl { l := x.l,words := y,i := IntKind.i64.wrap (x.i + 1),mcls := y_1.snd.snd.fst,mcell := y_1.snd.snd.snd.fst,mother := y_1.snd.snd.snd.snd.fst,cells_lo := y_1.snd.snd.snd.snd.snd.fst,cells_len := y_1.snd.snd.snd.snd.snd.snd.fst,intact := y_1.snd.snd.snd.snd.snd.snd.snd.fst,zs := y_1.snd.snd.snd.snd.snd.snd.snd.snd }) else none else none else none else none
else some (Sum.inr (Sum.inl PUnit.unit))
theorem s1_eq (x : p1X) : exec E2 126 (C3.bodyAt 1) 2 (p1.R x) (p1.H x) (roundK2 0 p1 (.exit 2) q1 .ret z1) = s1 x := by kernel_rfl
noncomputable def l1 : LoopS := mkLoop2 0 p1 (.exit 2) q1 .ret z1 s1
theorem tl1 : topL (C3.bodyAt 1) 2 = [] := by kernel_rfl
theorem l1_ok  : LoopOkS Tryd.prog 126 none 0 (C3.bodyAt 1) l1 := mkLoop2_ok mixed (env_ok ty_ok cl_ok _) (by trivial) (by trivial) (fun _ => rfl) (fun _ => rfl) (fun _ => rfl) (tl1 ▸ AllL.nil) s1_eq
noncomputable def E1 : Env := ⟨ty,cfOf cl,lpOf [(1,l1)],none⟩
structure p0X where
 start : Int
 l : List ((Bool) × (Int) × Int)
 content_lo : Nat
 content_len : Nat
 words_lo : Nat
 words_len : Nat
 i : Int
 xs : List (Int)
 ws : List (List (Int))
def p0 : Pt p0X where
 own := [.reg 5 (.int .u8),.reg 6 (.sl (.int .u8))]
 t := ⟨[(0,.c (.it .u16)),(1,.c (.arr (.pair .bool (.pair (.int .u8) (.int .u8))))),(5,.c (.sl 0 0 1)),(6,.c (.sl 1 0 1)),(7,.c (.it .i64))],[.arr (.int .u8) 0,.arr (.sl (.int .u8)) 0]⟩
 to := fun v => ⟨v.1.1,v.1.2.1,v.1.2.2.1.1,v.1.2.2.1.2,v.1.2.2.2.1.1,v.1.2.2.2.1.2,v.1.2.2.2.2.1,v.2.1,v.2.2.1⟩
 fr := fun x => ((x.start,(x.l,((x.content_lo,x.content_len),((x.words_lo,x.words_len),(x.i,()))))),(x.xs,(x.ws,())))
structure q0X where
 l : List ((Bool) × (Int) × Int)
 content : List (Int)
 words : List (List (Int))
def q0 : Pt q0X where
 own := []
 t := ⟨[(1,.c (.arr (.pair .bool (.pair (.int .u8) (.int .u8))))),(5,.c (.arr (.int .u8))),(6,.c (.arr (.sl (.int .u8))))],[]⟩
 to := fun v => ⟨v.1.1,v.1.2.1,v.1.2.2.1⟩
 fr := fun x => ((x.l,(x.content,(x.words,()))),())
noncomputable def s0 (x : p0X) : Option (p0X ⊕ q0X) := bif decide (x.i < 8) then bif decide (0 ≤ x.i) then bif eqN x.content_lo 0 && eqN x.xs.length x.content_len && roomB (x.content_len + 1) 1 then bif eqN x.words_lo 0 && eqN x.ws.length x.words_len && roomB (x.words_len + 1) 24 then some (Sum.inl { start := x.start,l := x.l,content_lo := 0,content_len := x.content_len + 1,words_lo := 0,words_len := x.words_len + 1,i := IntKind.i64.wrap (x.i + 1),xs := x.xs ++ [IntKind.u8.wrap (IntKind.u16.wrap (↑(BitVec.ofInt 16 (x.start.fdiv (2 ^ min x.i.toNat 16)) &&& BitVec.ofInt 16 1).toNat : Int))],ws := x.ws ++ [[IntKind.u8.wrap (IntKind.u16.wrap (↑(BitVec.ofInt 16 (x.start.fdiv (2 ^ min x.i.toNat 16)) &&& BitVec.ofInt 16 1).toNat : Int))]] }) else none else none else none
else
 bif leB (x.content_lo + x.content_len) x.xs.length && (leB (x.words_lo + x.words_len) x.ws.length && true) && true then
  some (Sum.inr { l := x.l,content := List.take x.content_len (List.drop x.content_lo x.xs),words := List.take x.words_len (List.drop x.words_lo x.ws) })
 else none
theorem s0_eq (x : p0X) : exec E1 126 (C3.bodyAt 0) 1 (p0.R x) (p0.H x) (roundK 0 p0 (.exit 0) q0) = s0 x := by kernel_rfl
noncomputable def l0 : LoopS := mkLoop 0 p0 (.exit 0) q0 s0
theorem tl0 : topL (C3.bodyAt 0) 1 = [] := by kernel_rfl
theorem l0_ok  : LoopOkS Tryd.prog 126 none 0 (C3.bodyAt 0) l0 := mkLoop_ok mixed (env_ok ty_ok cl_ok _) (by trivial) (fun _ => rfl) (fun _ => rfl) (tl0 ▸ AllL.nil) s0_eq
noncomputable def E0 : Env := ⟨ty,cfOf cl,lpOf [(0,l0),(1,l1)],none⟩
noncomputable def m (x : gX) : Option fY := bif decide ((↑x.l.length : Int) > 60) then bindO (some PUnit.unit) fun y => some true
else
 bindO (iter s0 { start := x.start,l := x.l,content_lo := 0,content_len := 0,words_lo := 0,words_len := 0,i := 0,xs := [],ws := [] }) fun y =>
  bindO (M5.m { start := y.content,d := [] }) fun y_1 =>
   bif y_1.fst != 0 then some false
   else
    bindO
     (iter s1
      {l := y.l,words := y.words,i := 0,mcls := y_1.snd.fst,mcell := y_1.snd.snd.fst,mother := y_1.snd.snd.snd.fst,cells_lo := y_1.snd.snd.snd.snd.fst,
       cells_len := y_1.snd.snd.snd.snd.snd.fst,intact := y_1.snd.snd.snd.snd.snd.snd.fst,zs := y_1.snd.snd.snd.snd.snd.snd.snd })
     fun s => sumC s (fun y => bindO (some PUnit.unit) fun y => some true) fun z => some z.r
theorem m_eq (x : gX) : exec E0 126 C3 0 (initS 0 (g.A x)) (g.H x) (finish 0 ty [.tmp 4] f) = m x := by kernel_rfl
theorem tl : topL C3 0 = [(0,C3.bodyAt 0),(1,C3.bodyAt 1)] := by kernel_rfl
theorem known : Known Tryd.prog 3 g f m :=
 mk_known mixed (env_ok ty_ok cl_ok _) s3 rfl rfl tl (AllL.cons rfl l0_ok (AllL.cons rfl l1_ok AllL.nil)) (fun _ _ => ⟨rfl,rfl⟩) (fun _ _ => ⟨rfl,rfl⟩) m_eq
end M3
end Go.Proofs.YtogkpjhkpgdbkaaDoor
