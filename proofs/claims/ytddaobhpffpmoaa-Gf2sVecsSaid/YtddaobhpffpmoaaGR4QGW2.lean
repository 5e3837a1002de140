/-
  The functions of gf2s and shifters, run on symbolic values.
-/
import Derived.Test.YtddaobhpffpmoaaGR4QGc
set_option linter.all false
namespace Go.Proofs.Ytddaobhpffpmoaa
open Go.Abs
set_option maxRecDepth 100000
namespace M4
structure gX where
 mr : Int
 mc : Int
 ma : List (Int)
 ix : Int
def g : Sg gX where
 vs := [.agg [.it .u8,.it .u8,.arr (.int .u8)],.c (.it .i64)]
 h := []
 to := fun a b => ⟨a.1.1,a.1.2.1,a.1.2.2.1,a.2.1⟩
 fa := fun x => ((x.mr,(x.mc,(x.ma,()))),(x.ix,()))
 fh := fun x => ()
abbrev fY := Bool
def f : Ft fY where
 ord := none
 sh := .c (.bo)
 h := []
 to := fun a b => (a)
 fv := fun y => y
 fh := fun y => ()
noncomputable def cl : List (FuncId × Con) := [(18,M18.con),(19,M19.con),(20,M20.con),(21,M21.con),(24,M24.con),(28,M28.con),(33,M33.con),(34,M34.con),(30,M30.con),(35,M35.con),(36,M36.con),(37,M37.con)]
theorem cl_ok : allCon Try.prog cl := ⟨M18.con_ok,M19.con_ok,M20.con_ok,M21.con_ok,M24.con_ok,M28.con_ok,M33.con_ok,M34.con_ok,M30.con_ok,M35.con_ok,M36.con_ok,M37.con_ok,trivial⟩
noncomputable def E2 : Env := ⟨ty,cfOf cl,fun _ => none,none⟩
structure p1X where
 c : Int
 l : List (List (Int))
 bits : List (Int)
 k : Int
 mr : Int
 mc : Int
 ma : List (Int)
 an : Int
 aw : List (Int)
def p1 : Pt p1X where
 own := []
 t := ⟨[(6,.c (.it .i64)),(7,.c (.arr (.sl (.int .u8)))),(8,.c (.ptr 1 0)),(18,.c (.arr (.int .u8))),(19,.c (.it .i64))],[.st [.it .u8,.it .u8,.arr (.int .u8)] 1 0,.st [.it .i64,.arr (.int .u64)] 1 0]⟩
 to := fun v => ⟨v.1.1,v.1.2.1,v.1.2.2.2.1,v.1.2.2.2.2.1,v.2.1.1,v.2.1.2.1,v.2.1.2.2.1,v.2.2.1.1,v.2.2.1.2.1⟩
 fr := fun x => ((x.c,(x.l,((),(x.bits,(x.k,()))))),((x.mr,(x.mc,(x.ma,()))),((x.an,(x.aw,())),())))
abbrev q1X := Unit
def q1 : Pt q1X where
 own := []
 t := ⟨[],[]⟩
 to := fun v => ()
 fr := fun x => ((),())
structure z1X where
 r : Bool
def z1 : Pt z1X where
 own := []
 t := ⟨[(4,.c (.bo))],[]⟩
 to := fun v => ⟨v.1.1⟩
 fr := fun x => ((x.r,()),())
noncomputable def s1 (x : p1X) : Option (p1X ⊕ (q1X ⊕ z1X)) := bif decide (x.k < x.c) then bif inR x.k x.bits.length then bif inR 0 x.l.length then bif inR x.k (List.length (x.l[0]?.getD [])) then bindO (bif !x.bits[x.k.toNat]?.getD 0 != (x.l[0]?.getD [])[x.k.toNat]?.getD 0 then M37.m { n := x.an,w := x.aw,i := x.k } else some (Int.ofNat 0)) fun y => bif inR x.k x.bits.length || !!x.bits[x.k.toNat]?.getD 0 != (x.l[0]?.getD [])[x.k.toNat]?.getD 0 then bif bif x.bits[x.k.toNat]?.getD 0 != (x.l[0]?.getD [])[x.k.toNat]?.getD 0 then true else y != x.bits[x.k.toNat]?.getD 0 then some (Sum.inr (Sum.inr { r := false })) else some (Sum.inl { c := x.c,l := x.l,bits := x.bits,k := IntKind.i64.wrap (x.k + 1),mr := x.mr,mc := x.mc,ma := x.ma,an := x.an,aw := x.aw }) else none else none else none else none
else some (Sum.inr (Sum.inl PUnit.unit))
theorem s1_eq (x : p1X) : exec E2 183 (C4.bodyAt 1) 2 (p1.R x) (p1.H x) (roundK2 0 p1 (.exit 2) q1 .ret z1) = s1 x := by kernel_rfl
noncomputable def l1 : LoopS := mkLoop2 0 p1 (.exit 2) q1 .ret z1 s1
theorem tl1 : topL (C4.bodyAt 1) 2 = [] := by kernel_rfl
theorem l1_ok  : LoopOkS Try.prog 183 none 0 (C4.bodyAt 1) l1 := mkLoop2_ok mixed (env_ok ty_ok cl_ok _) (by trivial) (by trivial) (fun _ => rfl) (fun _ => rfl) (fun _ => rfl) (tl1 ▸ AllL.nil) s1_eq
noncomputable def E1 : Env := ⟨ty,cfOf cl,lpOf [(1,l1)],none⟩
structure p0X where
 ix : Int
 c : Int
 l : List (List (Int))
 e : Int
 d : Int
 f : Int
 want_lo : Nat
 want_len : Nat
 n : Int
 k : Int
 mr : Int
 mc : Int
 ma : List (Int)
 an : Int
 aw : List (Int)
 bn : Int
 bw : List (Int)
 sn : Int
 sw : List (Int)
 want : List (Int)
def p0 : Pt p0X where
 own := [.reg 14 (.int .u8)]
 t := ⟨[(1,.c (.it .i64)),(6,.c (.it .i64)),(7,.c (.arr (.sl (.int .u8)))),(8,.c (.ptr 1 0)),(9,.c (.ptr 2 0)),(10,.c (.ptr 7 0)),(11,.c (.it .i64)),(12,.c (.it .u8)),(13,.c (.it .i64)),(14,.c (.sl 8 0 1)),(15,.c (.it .i64)),(16,.c (.it .i64))],[.st [.it .u8,.it .u8,.arr (.int .u8)] 1 0,.st [.it .i64,.arr (.int .u64)] 1 0,.st [.it .i64,.arr (.int .u64)] 1 0,.st [.junk] 1 0,.st [.junk] 1 0,.st [.junk] 1 0,.st [.junk] 1 0,.st [.it .i64,.arr (.int .u64)] 1 0,.arr (.int .u8) 0]⟩
 to := fun v => ⟨v.1.1,v.1.2.1,v.1.2.2.1,v.1.2.2.2.2.2.2.1,v.1.2.2.2.2.2.2.2.1,v.1.2.2.2.2.2.2.2.2.1,v.1.2.2.2.2.2.2.2.2.2.1.1,v.1.2.2.2.2.2.2.2.2.2.1.2,v.1.2.2.2.2.2.2.2.2.2.2.1,v.1.2.2.2.2.2.2.2.2.2.2.2.1,v.2.1.1,v.2.1.2.1,v.2.1.2.2.1,v.2.2.1.1,v.2.2.1.2.1,v.2.2.2.1.1,v.2.2.2.1.2.1,v.2.2.2.2.2.2.2.2.1.1,v.2.2.2.2.2.2.2.2.1.2.1,v.2.2.2.2.2.2.2.2.2.1⟩
 fr := fun x => ((x.ix,(x.c,(x.l,((),((),((),(x.e,(x.d,(x.f,((x.want_lo,x.want_len),(x.n,(x.k,())))))))))))),((x.mr,(x.mc,(x.ma,()))),((x.an,(x.aw,())),((x.bn,(x.bw,())),(((),()),(((),()),(((),()),(((),()),((x.sn,(x.sw,())),(x.want,()))))))))))
structure q0X where
 ix : Int
 c : Int
 l : List (List (Int))
 e : Int
 d : Int
 f : Int
 want : List (Int)
 n : Int
 mr : Int
 mc : Int
 ma : List (Int)
 an : Int
 aw : List (Int)
 bn : Int
 bw : List (Int)
 sn : Int
 sw : List (Int)
def q0 : Pt q0X where
 own := []
 t := ⟨[(1,.c (.it .i64)),(6,.c (.it .i64)),(7,.c (.arr (.sl (.int .u8)))),(8,.c (.ptr 1 0)),(9,.c (.ptr 2 0)),(10,.c (.ptr 7 0)),(11,.c (.it .i64)),(12,.c (.it .u8)),(13,.c (.it .i64)),(14,.c (.arr (.int .u8))),(15,.c (.it .i64))],[.st [.it .u8,.it .u8,.arr (.int .u8)] 1 0,.st [.it .i64,.arr (.int .u64)] 1 0,.st [.it .i64,.arr (.int .u64)] 1 0,.st [.junk] 1 0,.st [.junk] 1 0,.st [.junk] 1 0,.st [.junk] 1 0,.st [.it .i64,.arr (.int .u64)] 1 0]⟩
 to := fun v => ⟨v.1.1,v.1.2.1,v.1.2.2.1,v.1.2.2.2.2.2.2.1,v.1.2.2.2.2.2.2.2.1,v.1.2.2.2.2.2.2.2.2.1,v.1.2.2.2.2.2.2.2.2.2.1,v.1.2.2.2.2.2.2.2.2.2.2.1,v.2.1.1,v.2.1.2.1,v.2.1.2.2.1,v.2.2.1.1,v.2.2.1.2.1,v.2.2.2.1.1,v.2.2.2.1.2.1,v.2.2.2.2.2.2.2.2.1.1,v.2.2.2.2.2.2.2.2.1.2.1⟩
 fr := fun x => ((x.ix,(x.c,(x.l,((),((),((),(x.e,(x.d,(x.f,(x.want,(x.n,()))))))))))),((x.mr,(x.mc,(x.ma,()))),((x.an,(x.aw,())),((x.bn,(x.bw,())),(((),()),(((),()),(((),()),(((),()),((x.sn,(x.sw,())),())))))))))
noncomputable def s0 (x : p0X) : Option (p0X ⊕ q0X) := bif decide (x.k < x.c) then bif inR 0 x.l.length then bif inR x.k (List.length (x.l[0]?.getD [])) then bif inR 1 x.l.length then bif inR x.k (List.length (x.l[1]?.getD [])) then bif eqN x.want_lo 0 && eqN x.want.length x.want_len && roomB (x.want_len + 1) 1 then bif inR 0 x.l.length then bif inR x.k (List.length (x.l[0]?.getD [])) then some (Sum.inl { ix := x.ix,c := x.c,l := x.l,e := x.e,d := x.d,f := x.f,want_lo := 0,want_len := x.want_len + 1,n := IntKind.i64.wrap (x.n + IntKind.i64.wrap ((x.l[0]?.getD [])[x.k.toNat]?.getD 0)),k := IntKind.i64.wrap (x.k + 1),mr := x.mr,mc := x.mc,ma := x.ma,an := x.an,aw := x.aw,bn := x.bn,bw := x.bw,sn := x.sn,sw := x.sw,want := x.want ++ [IntKind.u8.wrap (↑(BitVec.ofInt 8 ((x.l[0]?.getD [])[x.k.toNat]?.getD 0) ^^^ BitVec.ofInt 8 ((x.l[1]?.getD [])[x.k.toNat]?.getD 0)).toNat : Int)] }) else none else none else none else none else none else none else none
else
 bif leB (x.want_lo + x.want_len) x.want.length && true && true then
  some
   (Sum.inr
    {ix := x.ix,c := x.c,l := x.l,e := x.e,d := x.d,f := x.f,want := List.take x.want_len (List.drop x.want_lo x.want),n := x.n,mr := x.mr,mc := x.mc,ma := x.ma,
     an := x.an,aw := x.aw,bn := x.bn,bw := x.bw,sn := x.sn,sw := x.sw })
 else none
theorem s0_eq (x : p0X) : exec E1 183 (C4.bodyAt 0) 1 (p0.R x) (p0.H x) (roundK 0 p0 (.exit 0) q0) = s0 x := by kernel_rfl
noncomputable def l0 : LoopS := mkLoop 0 p0 (.exit 0) q0 s0
theorem tl0 : topL (C4.bodyAt 0) 1 = [] := by kernel_rfl
theorem l0_ok  : LoopOkS Try.prog 183 none 0 (C4.bodyAt 0) l0 := mkLoop_ok mixed (env_ok ty_ok cl_ok _) (by trivial) (fun _ => rfl) (fun _ => rfl) (tl0 ▸ AllL.nil) s0_eq
noncomputable def E0 : Env := ⟨ty,cfOf cl,lpOf [(0,l0),(1,l1)],none⟩
noncomputable def m (x : gX) : Option fY := bindO (M18.m { l := [(x.mr,x.mc,x.ma)] }) fun y => bif !y then bindO (M19.m PUnit.unit) fun y => some y else bindO (M20.m { r := x.mr,c := x.mc,a := x.ma }) fun y => bindO (M21.m { r := x.mr,c := x.mc,a := x.ma,n := 2,k := y.snd }) fun y_1 => bif inR 0 (List.length y_1) then bindO (M24.m { l := y_1[0]?.getD [] }) fun y_2 => bif inR 1 (List.length y_1) then bindO (M24.m { l := y_1[1]?.getD [] }) fun y_3 => bindO (M28.m { an := y_2.fst,aw := y_2.snd,bn := y_3.fst,bw := y_3.snd }) fun y_4 => bindO (M33.m { an := y_2.fst,aw := y_2.snd,bn := y_3.fst,bw := y_3.snd }) fun y_5 => bindO (iter s0 { ix := x.ix,c := y.snd,l := y_1,e := y_4.snd.snd,d := y_5.fst,f := y_5.snd,want_lo := 0,want_len := 0,n := 0,k := 0,mr := x.mr,mc := x.mc,ma := x.ma,an := y_2.fst,aw := y_2.snd,bn := y_3.fst,bw := y_3.snd,sn := y_4.fst,sw := y_4.snd.fst,want := [] }) fun y => bif bif inR 0 y.l.length && (inR y.ix (List.length (y.l[0]?.getD [])) && true) then true else bif bif decide (y.ix ≥ 0) then decide (y.ix < y.c) else false then false else true then bindO (M34.m { n := y.an,w := y.aw }) fun y_6 => bif inR 0 y.l.length || !!(↑(List.length y_6) : Int) != y.c then bindO (bif !(↑(List.length y_6) : Int) != y.c then M30.m { n := y.an,w := y.aw,l := y.l[0]?.getD [] } else some false) fun y_7 => bif inR 1 y.l.length || !!bif (↑(List.length y_6) : Int) != y.c then true else !y_7 then bindO (bif !bif (↑(List.length y_6) : Int) != y.c then true else !y_7 then M30.m { n := y.bn,w := y.bw,l := y.l[1]?.getD [] } else some false) fun y_8 => bindO (bif !bif bif bif (↑(List.length y_6) : Int) != y.c then true else !y_7 then true else !y_8 then true else y.e != 0 then M30.m { n := y.sn,w := y.sw,l := y.want } else some false) fun y_9 => bif inR 0 y.l.length || !!bif bif bif bif bif (↑(List.length y_6) : Int) != y.c then true else !y_7 then true else !y_8 then true else y.e != 0 then true else !y_9 then true else y.f != 0 then bif inR 1 y.l.length || !!bif bif bif bif bif (↑(List.length y_6) : Int) != y.c then true else !y_7 then true else !y_8 then true else y.e != 0 then true else !y_9 then true else y.f != 0 then bindO (bif !bif bif bif bif bif (↑(List.length y_6) : Int) != y.c then true else !y_7 then true else !y_8 then true else y.e != 0 then true else !y_9 then true else y.f != 0 then M35.m { a := y.l[0]?.getD [],b := y.l[1]?.getD [] } else some (Int.ofNat 0)) fun y_10 => bindO (bif !bif bif bif bif bif bif (↑(List.length y_6) : Int) != y.c then true else !y_7 then true else !y_8 then true else y.e != 0 then true else !y_9 then true else y.f != 0 then true else y.d != y_10 then M36.m { n := y.an,w := y.aw } else some (Int.ofNat 0)) fun y_11 => bindO (bif !bif bif bif bif bif bif bif (↑(List.length y_6) : Int) != y.c then true else !y_7 then true else !y_8 then true else y.e != 0 then true else !y_9 then true else y.f != 0 then true else y.d != y_10 then true else y_11 != y.n then M37.m { n := y.an,w := y.aw,i := y.ix } else some (Int.ofNat 0)) fun y_12 => bif bif bif bif bif bif bif bif bif (↑(List.length y_6) : Int) != y.c then true else !y_7 then true else !y_8 then true else y.e != 0 then true else !y_9 then true else y.f != 0 then true else y.d != y_10 then true else y_11 != y.n then true else y_12 != bif bif decide (y.ix ≥ 0) then decide (y.ix < y.c) else false then (y.l[0]?.getD [])[y.ix.toNat]?.getD 0 else 0 then some false else bindO (iter s1 { c := y.c,l := y.l,bits := y_6,k := 0,mr := y.mr,mc := y.mc,ma := y.ma,an := y.an,aw := y.aw }) fun s => sumC s (fun y => bindO (M19.m PUnit.unit) fun y => some y) fun z => some z.r else none else none else none else none else none else none else none
theorem m_eq (x : gX) : exec E0 183 C4 0 (initS 0 (g.A x)) (g.H x) (finish 0 ty [.tmp 4] f) = m x := by kernel_rfl
theorem tl : topL C4 0 = [(0,C4.bodyAt 0),(1,C4.bodyAt 1)] := by kernel_rfl
theorem known : Known Try.prog 4 g f m :=
 mk_known mixed (env_ok ty_ok cl_ok _) s4 rfl rfl tl (AllL.cons rfl l0_ok (AllL.cons rfl l1_ok AllL.nil)) (fun _ _ => ⟨rfl,rfl⟩) (fun _ _ => ⟨rfl,rfl⟩) m_eq
end M4
end Go.Proofs.Ytddaobhpffpmoaa
