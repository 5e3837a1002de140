/-
  The functions of gf2s and shifters, run on symbolic values.
-/
import Derived.Test.YtddaobhpffpmoaaGR6QGc
import Derived.Test.YtddaobhpffpmoaaGR6QGa
set_option linter.all false
namespace Go.Proofs.Ytddaobhpffpmoaa
open Go.Abs
set_option maxRecDepth 100000
namespace M6
structure gX where
 ar : Int
 ac : Int
 aa : List (Int)
 br : Int
 bc : Int
 ba : List (Int)
 v : List (Int)
def g : Sg gX where
 vs := [.agg [.it .u8,.it .u8,.arr (.int .u8)],.agg [.it .u8,.it .u8,.arr (.int .u8)],.c (.arr (.int .u8))]
 h := []
 to := fun a b => ⟨a.1.1,a.1.2.1,a.1.2.2.1,a.2.1.1,a.2.1.2.1,a.2.1.2.2.1,a.2.2.1⟩
 fa := fun x => ((x.ar,(x.ac,(x.aa,()))),((x.br,(x.bc,(x.ba,()))),(x.v,())))
 fh := fun x => ()
abbrev fY := Bool
def f : Ft fY where
 ord := none
 sh := .c (.bo)
 h := []
 to := fun a b => (a)
 fv := fun y => y
 fh := fun y => ()
noncomputable def cl : List (FuncId × Con) := [(18,M18.con),(19,M19.con),(20,M20.con),(21,M21.con),(23,M23.con),(39,M39.con),(40,M40.con),(24,M24.con),(29,M29.con),(41,M41.con),(42,M42.con),(43,M43.con),(44,M44.con),(30,M30.con)]
theorem cl_ok : allCon Try.prog cl := ⟨M18.con_ok,M19.con_ok,M20.con_ok,M21.con_ok,M23.con_ok,M39.con_ok,M40.con_ok,M24.con_ok,M29.con_ok,M41.con_ok,M42.con_ok,M43.con_ok,M44.con_ok,M30.con_ok,trivial⟩
noncomputable def E0 : Env := ⟨ty,cfOf cl,fun _ => none,none⟩
noncomputable def m (x : gX) : Option fY := bindO (M18.m ⟨[(x.ar,x.ac,x.aa),(x.br,x.bc,x.ba)]⟩) fun y => bif bif !y then true else decide ((↑x.v.length : Int) > 40) then bindO (M19.m PUnit.unit) fun y => some y else bindO (M20.m ⟨x.ar,x.ac,x.aa⟩) fun y => bindO (M20.m ⟨x.br,x.bc,x.ba⟩) fun y_1 => bindO (M21.m ⟨x.ar,x.ac,x.aa,y.fst,y.snd.tmod 12⟩) fun y_2 => bindO (M21.m ⟨x.br,x.bc,x.ba,y.snd.tmod 12,y_1.snd⟩) fun y_3 => bindO (M21.m ⟨0,0,x.v,1,y.snd.tmod 12⟩) fun y_4 => bif inR 0 (List.length y_4) then bindO (M23.m ⟨y_2,y.snd.tmod 12⟩) fun y_5 => bindO (M23.m ⟨y_3,y_1.snd⟩) fun y_6 => bindO (M39.m ⟨y_5.fst,y_5.snd,y_6.fst,y_6.snd⟩) fun y_7 => bindO (M23.m ⟨y_3,y_1.snd⟩) fun y_8 => bindO (M40.m ⟨y_8.fst,y_8.snd⟩) fun y_9 => bindO (M23.m ⟨y_2,y.snd.tmod 12⟩) fun y_10 => bindO (M24.m ⟨y_4[0]?.getD []⟩) fun y_11 => bindO (M29.m ⟨y_10.fst,y_10.snd,y_11.fst,y_11.snd⟩) fun y_12 => bindO (M42.m ⟨y_2,y_3,y_1.snd⟩) fun y_13 => bindO (M41.m ⟨y_7.fst,y_7.snd.fst,y_7.snd.snd,y_13,y_1.snd⟩) fun y_14 => bindO (bif y_14 then M43.m ⟨y_3,y_1.snd⟩ else some []) fun y_15 => bindO (bif y_14 then M41.m ⟨y_9.fst,y_9.snd.fst,y_9.snd.snd,y_15,y.snd.tmod 12⟩ else some false) fun y => bindO (bif bif bif y_14 then y else false then y_12.snd.snd == 0 else false then M44.m ⟨y_2,y_4[0]?.getD []⟩ else some []) fun y_16 => bindO (bif bif bif y_14 then y else false then y_12.snd.snd == 0 else false then M30.m ⟨y_12.fst,y_12.snd.fst,y_16⟩ else some false) fun y_17 => bindO (bif bif bif bif y_14 then y else false then y_12.snd.snd == 0 else false then y_17 else false then M19.m PUnit.unit else some false) fun y_18 => some (bif bif bif bif y_14 then y else false then y_12.snd.snd == 0 else false then y_17 else false then y_18 else false) else none
theorem m_eq (x : gX) : exec E0 114 C6 0 (initS 0 (g.A x)) (g.H x) (finish 0 ty [.tmp 6] f) = m x := by kernel_rfl
theorem tl : topL C6 0 = [] := by kernel_rfl
theorem known : Known Try.prog 6 g f m :=
 mk_known mixed (env_ok ty_ok cl_ok _) s6 rfl rfl tl AllL.nil (fun _ _ => ⟨rfl,rfl⟩) (fun _ _ => ⟨rfl,rfl⟩) m_eq
end M6
end Go.Proofs.Ytddaobhpffpmoaa
