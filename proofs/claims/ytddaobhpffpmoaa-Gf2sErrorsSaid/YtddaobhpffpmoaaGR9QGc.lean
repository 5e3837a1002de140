/-
  What the proof stands on.
-/
import Derived.Test.YtddaobhpffpmoaaGR9QGa
import Derived.Test.YtddaobhpffpmoaaGR9QGj
import Derived.Test.YtddaobhpffpmoaaGR9QGb
set_option linter.all false
namespace Go.Proofs.Ytddaobhpffpmoaa
open Go.Abs
set_option maxRecDepth 100000
end Go.Proofs.Ytddaobhpffpmoaa
namespace Go.Proofs.Ytddaobhpffpmoaa
open Go.Abs
set_option maxRecDepth 100000
namespace M19
abbrev gX := Unit
def g : Sg gX where
 vs := []
 h := []
 to := fun a b => ()
 fa := fun x => ()
 fh := fun x => ()
abbrev fY := Bool
def f : Ft fY where
 ord := none
 sh := .c (.bo)
 h := []
 to := fun a b => (a)
 fv := fun y => y
 fh := fun y => ()
noncomputable def cl : List (FuncId × Con) := [(24,M24.con),(28,M28.con),(33,M33.con),(29,M29.con),(40,M40.con),(26,M26.con),(25,M25.con),(22,M22.con),(22,M22j.conR),(32,M32.con),(36,M36.con),(47,M47g.con),(46,M46.con),(46,M46.conR),(52,M52.con),(51,M51t.con)]
theorem cl_ok : allCon Try.prog cl := ⟨M24.con_ok,M28.con_ok,M33.con_ok,M29.con_ok,M40.con_ok,M26.con_ok,M25.con_ok,M22.con_ok,M22j.conR_ok,M32.con_ok,M36.con_ok,M47g.con_ok,M46.con_ok,M46.conR_ok,M52.con_ok,M51t.con_ok,trivial⟩
noncomputable def E0 : Env := ⟨ty,cfOf cl,fun _ => none,none⟩
noncomputable def m (x : gX) : Option fY := bindO (M24.m ⟨[1,1,0]⟩) fun y => bindO (M24.m ⟨[0,1,1]⟩) fun y_1 => bindO (M28.m ⟨y.fst,y.snd,y_1.fst,y_1.snd⟩) fun y_2 => bindO (M33.m ⟨y.fst,y.snd,y_1.fst,y_1.snd⟩) fun y_3 => bindO (M24.m ⟨[1,0,1]⟩) fun y_4 => bindO (M29.m ⟨3,[(y.fst,y.snd),(y_1.fst,y_1.snd)],y_4.fst,y_4.snd⟩) fun y_5 => bindO (M40.m ⟨3,[(y.fst,y.snd),(y_1.fst,y_1.snd)]⟩) fun y_6 => bindO (M26.m ⟨3,[(y.fst,y.snd),(y_1.fst,y_1.snd)]⟩) fun y_7 => bindO (M25.m ⟨3,[(y.fst,y.snd),(y_1.fst,y_1.snd)]⟩) fun y_8 => bindO (M24.m ⟨[1,0]⟩) fun y_9 => bindO (M22.m ⟨3,[(y.fst,y.snd),(y_1.fst,y_1.snd)],y_9.fst,y_9.snd⟩) fun y => bindO (M24.m ⟨[1,0,1]⟩) fun y_10 => bindO (M32.m ⟨y_10.fst,y_10.snd⟩) fun y_11 => bindO (bif !bif !y_11 == [49,48,49] then true else y_2.snd.snd != 0 then M32.m ⟨y_2.fst,y_2.snd.fst⟩ else some []) fun y_12 => bif !bif bif bif bif !y_11 == [49,48,49] then true else y_2.snd.snd != 0 then true else !y_12 == [49,48,49] then true else y_3.snd != 0 then true else y_3.fst != 1 then bindO (M24.m ⟨[1,0,1,1]⟩) fun y_13 => bindO (M36.m ⟨y_13.fst,y_13.snd⟩) fun y_14 => bindO (bif !bif y_14 != 3 then true else y_5.snd.snd != 0 then M32.m ⟨y_5.fst,y_5.snd.fst⟩ else some []) fun y_15 => bif inR 1 y_6.snd.fst.length || !!bif bif bif bif y_14 != 3 then true else y_5.snd.snd != 0 then true else !y_15 == [49,49] then true else y_6.snd.snd != 0 then true else (↑y_6.snd.fst.length : Int) != 3 then bindO (bif !bif bif bif bif y_14 != 3 then true else y_5.snd.snd != 0 then true else !y_15 == [49,49] then true else y_6.snd.snd != 0 then true else (↑y_6.snd.fst.length : Int) != 3 then M32.m ⟨(y_6.snd.fst[1]?.getD (0,[])).fst,(y_6.snd.fst[1]?.getD (0,[])).snd⟩ else some []) fun y_16 => bif inR 0 y_8.fst.length || !!bif bif bif bif bif bif bif bif bif y_14 != 3 then true else y_5.snd.snd != 0 then true else !y_15 == [49,49] then true else y_6.snd.snd != 0 then true else (↑y_6.snd.fst.length : Int) != 3 then true else !y_16 == [49,49] then true else y_7.snd != 0 then true else y_7.fst != 2 then true else y_8.snd != 0 then true else (↑y_8.fst.length : Int) != 1 then bindO (bif !bif bif bif bif bif bif bif bif bif y_14 != 3 then true else y_5.snd.snd != 0 then true else !y_15 == [49,49] then true else y_6.snd.snd != 0 then true else (↑y_6.snd.fst.length : Int) != 3 then true else !y_16 == [49,49] then true else y_7.snd != 0 then true else y_7.fst != 2 then true else y_8.snd != 0 then true else (↑y_8.fst.length : Int) != 1 then M32.m ⟨(y_8.fst[0]?.getD (0,[])).fst,(y_8.fst[0]?.getD (0,[])).snd⟩ else some []) fun y_17 => bindO (bif !bif bif bif bif bif bif bif bif bif bif bif y_14 != 3 then true else y_5.snd.snd != 0 then true else !y_15 == [49,49] then true else y_6.snd.snd != 0 then true else (↑y_6.snd.fst.length : Int) != 3 then true else !y_16 == [49,49] then true else y_7.snd != 0 then true else y_7.fst != 2 then true else y_8.snd != 0 then true else (↑y_8.fst.length : Int) != 1 then true else !y_17 == [49,49,49] then true else y.snd.snd != 0 then M32.m ⟨y.fst,y.snd.fst⟩ else some []) fun y_18 => bif bif bif bif bif bif bif bif bif bif bif bif bif y_14 != 3 then true else y_5.snd.snd != 0 then true else !y_15 == [49,49] then true else y_6.snd.snd != 0 then true else (↑y_6.snd.fst.length : Int) != 3 then true else !y_16 == [49,49] then true else y_7.snd != 0 then true else y_7.fst != 2 then true else y_8.snd != 0 then true else (↑y_8.fst.length : Int) != 1 then true else !y_17 == [49,49,49] then true else y.snd.snd != 0 then true else !y_18 == [49,48,48] then some false else bindO (M24.m ⟨[1,1]⟩) fun y => bindO (M24.m ⟨[1,1]⟩) fun y_19 => bindO (M24.m ⟨[1,0]⟩) fun y_20 => bindO (M22j.m ⟨2,List.take 2 (List.drop 0 [(y.fst,y.snd),(y_19.fst,y_19.snd)]),y_20.fst,y_20.snd⟩) fun y_21 => bindO (M24.m ⟨[0,1]⟩) fun y_22 => bif decide (1 < 2) then bindO (M47g.m ⟨2,0,2,2,[(y.fst,y.snd),(y_19.fst,y_19.snd)].set 1 (y_22.fst,y_22.snd)⟩) fun y => bindO (M52.m ⟨[2]⟩) fun y_23 => bindO (M51t.m ⟨-1⟩) fun y_24 => bindO (M51t.m ⟨4097⟩) fun y_25 => bindO (bif bif y_21 == 9 then y.snd.snd.fst == 0 else false then bif leB 2 y.snd.snd.snd.length && true && true then M46.m ⟨y.fst,y.snd.fst,2,List.take 2 (List.drop 0 y.snd.snd.snd)⟩ else none else some false) fun y_26 => some (bif bif bif bif bif y_21 == 9 then y.snd.snd.fst == 0 else false then y_26 else false then y_23.snd.snd == 1 else false then y_24.snd.snd == 1 else false then y_25.snd.snd == 3 else false) else none else none else none else bindO (some ([] : List UInt8)) fun y => bif inR 1 y_6.snd.fst.length || true then bindO (some ([] : List UInt8)) fun y => bif inR 0 y_8.fst.length || true then bindO (some ([] : List UInt8)) fun y => bindO (some ([] : List UInt8)) fun y => some false else none else none
theorem m_eq (x : gX) : exec E0 224 C19 0 (initS 0 (g.A x)) (g.H x) (finish 0 ty [.tmp 0] f) = m x := by kernel_rfl
theorem tl : topL C19 0 = [] := by kernel_rfl
theorem known : Known Try.prog 19 g f m :=
 mk_known mixed (env_ok ty_ok cl_ok _) s19 rfl rfl tl AllL.nil (fun _ _ => ⟨rfl,rfl⟩) (fun _ _ => ⟨rfl,rfl⟩) m_eq
noncomputable def con : Con := conT g f m default
theorem con_ok : ConOk Try.prog 19 con := conT_ok known (fun _ => rfl) rfl
end M19
end Go.Proofs.Ytddaobhpffpmoaa
