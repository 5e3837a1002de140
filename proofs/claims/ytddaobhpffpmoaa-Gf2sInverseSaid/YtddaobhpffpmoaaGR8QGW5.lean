/-
  The functions of gf2s and shifters, run on symbolic values.
-/
import Derived.Test.YtddaobhpffpmoaaGR8QGc
import Derived.Test.YtddaobhpffpmoaaGR8QGa
set_option linter.all false
namespace Go.Proofs.Ytddaobhpffpmoaa
open Go.Abs
set_option maxRecDepth 100000
namespace M8
structure gX where
 ar : Int
 ac : Int
 aa : List (Int)
 br : Int
 bc : Int
 ba : List (Int)
def g : Sg gX where
 vs := [.agg [.it .u8,.it .u8,.arr (.int .u8)],.agg [.it .u8,.it .u8,.arr (.int .u8)]]
 h := []
 to := fun a b => ⟨a.1.1,a.1.2.1,a.1.2.2.1,a.2.1.1,a.2.1.2.1,a.2.1.2.2.1⟩
 fa := fun x => ((x.ar,(x.ac,(x.aa,()))),((x.br,(x.bc,(x.ba,()))),()))
 fh := fun x => ()
abbrev fY := Bool
def f : Ft fY where
 ord := none
 sh := .c (.bo)
 h := []
 to := fun a b => (a)
 fv := fun y => y
 fh := fun y => ()
noncomputable def cl : List (FuncId × Con) := [(18,M18.con),(19,M19.con),(20,M20.con),(21,M21.con),(23,M23.con),(47,M47.con),(26,M26.con),(45,M45.con),(39,M39.con),(46,M46.con)]
theorem cl_ok : allCon Try.prog cl := ⟨M18.con_ok,M19.con_ok,M20.con_ok,M21.con_ok,M23.con_ok,M47.con_ok,M26.con_ok,M45.con_ok,M39.con_ok,M46.con_ok,trivial⟩
noncomputable def E0 : Env := ⟨ty,cfOf cl,fun _ => none,none⟩
noncomputable def m (x : gX) : Option fY := bindO (M18.m ⟨[(x.ar,x.ac,x.aa),(x.br,x.bc,x.ba)]⟩) fun y => bif !y then bindO (M19.m PUnit.unit) fun y => some y else bindO (M20.m ⟨x.ar,x.ac,x.aa⟩) fun y => bindO (M21.m ⟨x.ar,x.ac,x.aa,y.fst,y.fst⟩) fun y_1 => bindO (M23.m ⟨y_1,y.fst⟩) fun y_2 => bindO (M21.m ⟨x.br,x.bc,x.ba,y.fst,y.fst⟩) fun y_3 => bindO (M23.m ⟨y_3,y.fst⟩) fun y_4 => bindO (M47.m ⟨y_2.fst,y_2.snd⟩) fun y_5 => bindO (M26.m ⟨y_2.fst,y_2.snd⟩) fun y_6 => bif bif bif y_6.snd != 0 then true else !(y_5.snd.snd == 0) == (y_6.fst == y.fst) then true else bif y_5.snd.snd != 0 then bif bif y_5.snd.snd != 9 then true else y_5.fst != 0 then true else decide ((↑y_5.snd.fst.length : Int) > 0) else false then some false else bif y_5.snd.snd != 0 then bindO (M19.m PUnit.unit) fun y => some y else bindO (M45.m ⟨y.fst⟩) fun y_7 => bindO (M39.m ⟨y_5.fst,y_5.snd.fst,y_2.fst,y_2.snd⟩) fun y_8 => bindO (M39.m ⟨y_2.fst,y_2.snd,y_5.fst,y_5.snd.fst⟩) fun y_9 => bindO (M47.m ⟨y_4.fst,y_4.snd⟩) fun y_10 => bindO (M39.m ⟨y_2.fst,y_2.snd,y_4.fst,y_4.snd⟩) fun y_11 => bindO (M47.m ⟨y_11.fst,y_11.snd.fst⟩) fun y_12 => bindO (M39.m ⟨y_10.fst,y_10.snd.fst,y_5.fst,y_5.snd.fst⟩) fun y_13 => bindO (bif (↑y_5.snd.fst.length : Int) == y.fst then M46.m ⟨y_8.fst,y_8.snd.fst,y_7.fst,y_7.snd.fst⟩ else some false) fun y_14 => bindO (bif bif (↑y_5.snd.fst.length : Int) == y.fst then y_14 else false then M46.m ⟨y_9.fst,y_9.snd.fst,y_7.fst,y_7.snd.fst⟩ else some false) fun y_15 => bindO (bif (bif bif bif (↑y_5.snd.fst.length : Int) == y.fst then y_14 else false then y_15 else false then y_10.snd.snd == y_12.snd.snd else false) && !y_10.snd.snd != 0 then M46.m ⟨y_12.fst,y_12.snd.fst,y_13.fst,y_13.snd.fst⟩ else some false) fun y_16 => bindO (bif bif bif bif bif (↑y_5.snd.fst.length : Int) == y.fst then y_14 else false then y_15 else false then y_10.snd.snd == y_12.snd.snd else false then bif y_10.snd.snd != 0 then true else y_16 else false then M19.m PUnit.unit else some false) fun y_17 => some (bif bif bif bif bif (↑y_5.snd.fst.length : Int) == y.fst then y_14 else false then y_15 else false then y_10.snd.snd == y_12.snd.snd else false then bif y_10.snd.snd != 0 then true else y_16 else false then y_17 else false)
theorem m_eq (x : gX) : exec E0 163 C8 0 (initS 0 (g.A x)) (g.H x) (finish 0 ty [.tmp 4] f) = m x := by kernel_rfl
theorem tl : topL C8 0 = [] := by kernel_rfl
theorem known : Known Try.prog 8 g f m :=
 mk_known mixed (env_ok ty_ok cl_ok _) s8 rfl rfl tl AllL.nil (fun _ _ => ⟨rfl,rfl⟩) (fun _ _ => ⟨rfl,rfl⟩) m_eq
end M8
end Go.Proofs.Ytddaobhpffpmoaa
