/-
  The functions of gf2s and shifters, run on symbolic values.
-/
import Derived.Test.YtddaobhpffpmoaaGR7QGc
import Derived.Test.YtddaobhpffpmoaaGR7QGa
set_option linter.all false
namespace Go.Proofs.Ytddaobhpffpmoaa
open Go.Abs
set_option maxRecDepth 100000
namespace M7
structure gX where
 ar : Int
 ac : Int
 aa : List (Int)
 br : Int
 bc : Int
 ba : List (Int)
 cr : Int
 cc : Int
 ca : List (Int)
def g : Sg gX where
 vs := [.agg [.it .u8,.it .u8,.arr (.int .u8)],.agg [.it .u8,.it .u8,.arr (.int .u8)],.agg [.it .u8,.it .u8,.arr (.int .u8)]]
 h := []
 to := fun a b => ⟨a.1.1,a.1.2.1,a.1.2.2.1,a.2.1.1,a.2.1.2.1,a.2.1.2.2.1,a.2.2.1.1,a.2.2.1.2.1,a.2.2.1.2.2.1⟩
 fa := fun x => ((x.ar,(x.ac,(x.aa,()))),((x.br,(x.bc,(x.ba,()))),((x.cr,(x.cc,(x.ca,()))),())))
 fh := fun x => ()
abbrev fY := Bool
def f : Ft fY where
 ord := none
 sh := .c (.bo)
 h := []
 to := fun a b => (a)
 fv := fun y => y
 fh := fun y => ()
noncomputable def cl : List (FuncId × Con) := [(18,M18.con),(19,M19.con),(20,M20.con),(21,M21.con),(23,M23.con),(39,M39.con),(45,M45.con),(40,M40.con),(46,M46.con),(26,M26.con)]
theorem cl_ok : allCon Try.prog cl := ⟨M18.con_ok,M19.con_ok,M20.con_ok,M21.con_ok,M23.con_ok,M39.con_ok,M45.con_ok,M40.con_ok,M46.con_ok,M26.con_ok,trivial⟩
noncomputable def E0 : Env := ⟨ty,cfOf cl,fun _ => none,none⟩
noncomputable def m (x : gX) : Option fY := bindO (M18.m ⟨[(x.ar,x.ac,x.aa),(x.br,x.bc,x.ba),(x.cr,x.cc,x.ca)]⟩) fun y => bif !y then bindO (M19.m PUnit.unit) fun y => some y else bindO (M20.m ⟨x.ar,x.ac,x.aa⟩) fun y => bindO (M20.m ⟨x.br,x.bc,x.ba⟩) fun y_1 => bindO (M21.m ⟨x.ar,x.ac,x.aa,y.fst,y.snd.tmod 12⟩) fun y_2 => bindO (M23.m ⟨y_2,y.snd.tmod 12⟩) fun y_3 => bindO (M21.m ⟨x.br,x.bc,x.ba,y.snd.tmod 12,y_1.fst⟩) fun y_4 => bindO (M23.m ⟨y_4,y_1.fst⟩) fun y_5 => bindO (M21.m ⟨x.cr,x.cc,x.ca,y_1.fst,y_1.snd.tmod 12⟩) fun y_6 => bindO (M23.m ⟨y_6,y_1.snd.tmod 12⟩) fun y_7 => bindO (M39.m ⟨y_3.fst,y_3.snd,y_5.fst,y_5.snd⟩) fun y_8 => bindO (M39.m ⟨y_5.fst,y_5.snd,y_7.fst,y_7.snd⟩) fun y_9 => bindO (M39.m ⟨y_8.fst,y_8.snd.fst,y_7.fst,y_7.snd⟩) fun y_10 => bindO (M39.m ⟨y_3.fst,y_3.snd,y_9.fst,y_9.snd.fst⟩) fun y_11 => bindO (M45.m ⟨y.snd.tmod 12⟩) fun y_12 => bindO (M39.m ⟨y_3.fst,y_3.snd,y_12.fst,y_12.snd.fst⟩) fun y_13 => bindO (M40.m ⟨y_3.fst,y_3.snd⟩) fun y_14 => bindO (M40.m ⟨y_5.fst,y_5.snd⟩) fun y_15 => bindO (M40.m ⟨y_8.fst,y_8.snd.fst⟩) fun y_16 => bindO (M39.m ⟨y_15.fst,y_15.snd.fst,y_14.fst,y_14.snd.fst⟩) fun y_17 => bindO (bif !bif bif bif bif bif bif bif y_8.snd.snd != 0 then true else y_9.snd.snd != 0 then true else y_10.snd.snd != 0 then true else y_11.snd.snd != 0 then true else y_12.snd.snd != 0 then true else y_13.snd.snd != 0 then true else y_16.snd.snd != 0 then true else y_17.snd.snd != 0 then M46.m ⟨y_10.fst,y_10.snd.fst,y_11.fst,y_11.snd.fst⟩ else some false) fun y_18 => bindO (bif !bif bif bif bif bif bif bif bif bif y_8.snd.snd != 0 then true else y_9.snd.snd != 0 then true else y_10.snd.snd != 0 then true else y_11.snd.snd != 0 then true else y_12.snd.snd != 0 then true else y_13.snd.snd != 0 then true else y_16.snd.snd != 0 then true else y_17.snd.snd != 0 then true else !y_18 then true else (↑y_10.snd.fst.length : Int) != y.fst then M46.m ⟨y_13.fst,y_13.snd.fst,y_3.fst,y_3.snd⟩ else some false) fun y_19 => bindO (bif !bif bif bif bif bif bif bif bif bif bif y_8.snd.snd != 0 then true else y_9.snd.snd != 0 then true else y_10.snd.snd != 0 then true else y_11.snd.snd != 0 then true else y_12.snd.snd != 0 then true else y_13.snd.snd != 0 then true else y_16.snd.snd != 0 then true else y_17.snd.snd != 0 then true else !y_18 then true else (↑y_10.snd.fst.length : Int) != y.fst then true else !y_19 then M46.m ⟨y_16.fst,y_16.snd.fst,y_17.fst,y_17.snd.fst⟩ else some false) fun y_20 => bif bif bif bif bif bif bif bif bif bif bif bif y_8.snd.snd != 0 then true else y_9.snd.snd != 0 then true else y_10.snd.snd != 0 then true else y_11.snd.snd != 0 then true else y_12.snd.snd != 0 then true else y_13.snd.snd != 0 then true else y_16.snd.snd != 0 then true else y_17.snd.snd != 0 then true else !y_18 then true else (↑y_10.snd.fst.length : Int) != y.fst then true else !y_19 then true else !y_20 then some false else bindO (M26.m ⟨y_3.fst,y_3.snd⟩) fun y => bindO (M26.m ⟨y_14.fst,y_14.snd.fst⟩) fun y_21 => bindO (M26.m ⟨y_8.fst,y_8.snd.fst⟩) fun y_22 => bindO (M26.m ⟨y_5.fst,y_5.snd⟩) fun y_23 => bindO (bif bif bif bif bif bif bif y.snd == 0 then y_21.snd == 0 else false then y_22.snd == 0 else false then y_23.snd == 0 else false then y.fst == y_21.fst else false then decide (y_22.fst ≤ y.fst) else false then decide (y_22.fst ≤ y_23.fst) else false then M19.m PUnit.unit else some false) fun y_24 => some (bif bif bif bif bif bif bif y.snd == 0 then y_21.snd == 0 else false then y_22.snd == 0 else false then y_23.snd == 0 else false then y.fst == y_21.fst else false then decide (y_22.fst ≤ y.fst) else false then decide (y_22.fst ≤ y_23.fst) else false then y_24 else false)
theorem m_eq (x : gX) : exec E0 244 C7 0 (initS 0 (g.A x)) (g.H x) (finish 0 ty [.tmp 6] f) = m x := by kernel_rfl
theorem tl : topL C7 0 = [] := by kernel_rfl
theorem known : Known Try.prog 7 g f m :=
 mk_known mixed (env_ok ty_ok cl_ok _) s7 rfl rfl tl AllL.nil (fun _ _ => ⟨rfl,rfl⟩) (fun _ _ => ⟨rfl,rfl⟩) m_eq
end M7
end Go.Proofs.Ytddaobhpffpmoaa
