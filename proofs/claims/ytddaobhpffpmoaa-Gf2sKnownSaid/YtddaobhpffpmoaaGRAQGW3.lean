/-
  The functions of gf2s and shifters, run on symbolic values.
-/
import Derived.Test.YtddaobhpffpmoaaGRAQGc
import Derived.Test.YtddaobhpffpmoaaGRAQGa
set_option linter.all false
noncomputable section
namespace Go.Proofs.Ytddaobhpffpmoaa
open Go.Abs
set_option maxRecDepth 100000
namespace M6
structure gX where
 ar:Int
 ac:Int
 aa:List (Int)
 br:Int
 bc:Int
 ba:List (Int)
 v:List (Int)
def g:Sg gX where
 vs:=[.agg [.it .u8,.it .u8,.arr (.int .u8)],.agg [.it .u8,.it .u8,.arr (.int .u8)],.c (.arr (.int .u8))]
 h:=[]
 to:=fun a b=>⟨a.1.1,a.1.2.1,a.1.2.2.1,a.2.1.1,a.2.1.2.1,a.2.1.2.2.1,a.2.2.1⟩
 fa:=fun x=>((x.ar,(x.ac,(x.aa,()))),((x.br,(x.bc,(x.ba,()))),(x.v,())))
 fh:=fun x=>()
abbrev fY:=Bool
def f:Ft fY where
 ord:=none
 sh:=.c (.bo)
 h:=[]
 to:=fun a b=>(a)
 fv:=fun y=>y
 fh:=fun y=>()
def cl:List (FuncId×Con):=[(18,M18.con),(19,M19.con),(20,M20.con),(21,M21.con),(23,M23.con),(39,M39.con),(40,M40.con),(24,M24.con),(29,M29.con),(41,M41.con),(42,M42.con),(43,M43.con),(44,M44.con),(30,M30.con)]
theorem Q5:QG Try.prog cl:=⟨M18.Q1,M19.Q1,M20.Q1,M21.Q1,M23.Q1,M39.Q1,M40.Q1,M24.Q1,M29.Q1,M41.Q1,M42.Q1,M43.Q1,M44.Q1,M30.Q1,trivial⟩
def E0:Env:=⟨ty,QL cl,fun _=>none,none⟩
def m(x:gX):Option fY:=Q0 (M18.m ⟨[(x.ar,x.ac,x.aa),(x.br,x.bc,x.ba)]⟩) fun y=>bif bif !y then true else decide ((↑x.v.length:Int)>40) then Q0 (M19.m PUnit.unit) fun y=>some y else Q0 (M20.m ⟨x.ar,x.ac,x.aa⟩) fun y=>Q0 (M20.m ⟨x.br,x.bc,x.ba⟩) fun y_1=>Q0 (M21.m ⟨x.ar,x.ac,x.aa,y.1,y.2.tmod 12⟩) fun y_2=>Q0 (M21.m ⟨x.br,x.bc,x.ba,y.2.tmod 12,y_1.2⟩) fun y_3=>Q0 (M21.m ⟨0,0,x.v,1,y.2.tmod 12⟩) fun y_4=>bif inR 0 (List.length y_4) then Q0 (M23.m ⟨y_2,y.2.tmod 12⟩) fun y_5=>Q0 (M23.m ⟨y_3,y_1.2⟩) fun y_6=>Q0 (M39.m ⟨y_5.1,y_5.2,y_6.1,y_6.2⟩) fun y_7=>Q0 (M23.m ⟨y_3,y_1.2⟩) fun y_8=>Q0 (M40.m ⟨y_8.1,y_8.2⟩) fun y_9=>Q0 (M23.m ⟨y_2,y.2.tmod 12⟩) fun y_10=>Q0 (M24.m ⟨y_4[0]?.getD []⟩) fun y_11=>Q0 (M29.m ⟨y_10.1,y_10.2,y_11.1,y_11.2⟩) fun y_12=>Q0 (M42.m ⟨y_2,y_3,y_1.2⟩) fun y_13=>Q0 (M41.m ⟨y_7.1,y_7.2.1,y_7.2.2,y_13,y_1.2⟩) fun y_14=>Q0 (bif y_14 then M43.m ⟨y_3,y_1.2⟩ else some []) fun y_15=>Q0 (bif y_14 then M41.m ⟨y_9.1,y_9.2.1,y_9.2.2,y_15,y.2.tmod 12⟩ else some false) fun y=>Q0 (bif bif bif y_14 then y else false then y_12.2.2==0 else false then M44.m ⟨y_2,y_4[0]?.getD []⟩ else some []) fun y_16=>Q0 (bif bif bif y_14 then y else false then y_12.2.2==0 else false then M30.m ⟨y_12.1,y_12.2.1,y_16⟩ else some false) fun y_17=>Q0 (bif bif bif bif y_14 then y else false then y_12.2.2==0 else false then y_17 else false then M19.m PUnit.unit else some false) fun y_18=>some (bif bif bif bif y_14 then y else false then y_12.2.2==0 else false then y_17 else false then y_18 else false) else none
theorem QJ(x:gX):exec E0 114 C6 0 (QN 0 (g.A x)) (g.H x) (finish 0 ty [.tmp 6] f)=m x:=by kernel_rfl
theorem tl:QI C6 0=[]:=by kernel_rfl
theorem known:QM Try.prog 6 g f m:=
 Q9 mixed (Q8 QC Q5 _) s6 rfl rfl tl QB.nil (fun _ _=>⟨rfl,rfl⟩) (fun _ _=>⟨rfl,rfl⟩) QJ
def con:Con:=Qx g f m default
theorem Q1:QO Try.prog 6 con:=QE known (fun _=>rfl) rfl
end M6
end Go.Proofs.Ytddaobhpffpmoaa
