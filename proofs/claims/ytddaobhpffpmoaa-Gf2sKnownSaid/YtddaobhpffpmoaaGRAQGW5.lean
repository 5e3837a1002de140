/-
  The functions of gf2s and shifters, run on symbolic values.
-/
import Derived.Test.YtddaobhpffpmoaaGRAQGc
import Derived.Test.YtddaobhpffpmoaaGRAQGa
set_option linter.all false
noncomputable section
namespace Go.Proofs.Ytddaobhpffpmoaa
open Go.Abs
set_option maxRecDepth 100000
namespace M8
structure gX where
 ar:Int
 ac:Int
 aa:List (Int)
 br:Int
 bc:Int
 ba:List (Int)
def g:Sg gX where
 vs:=[.agg [.it .u8,.it .u8,.arr (.int .u8)],.agg [.it .u8,.it .u8,.arr (.int .u8)]]
 h:=[]
 to:=fun a b=>⟨a.1.1,a.1.2.1,a.1.2.2.1,a.2.1.1,a.2.1.2.1,a.2.1.2.2.1⟩
 fa:=fun x=>((x.ar,(x.ac,(x.aa,()))),((x.br,(x.bc,(x.ba,()))),()))
 fh:=fun x=>()
abbrev fY:=Bool
def f:Ft fY where
 ord:=none
 sh:=.c (.bo)
 h:=[]
 to:=fun a b=>(a)
 fv:=fun y=>y
 fh:=fun y=>()
def cl:List (FuncId×Con):=[(18,M18.con),(19,M19.con),(20,M20.con),(21,M21.con),(23,M23.con),(47,M47.con),(26,M26.con),(45,M45.con),(39,M39.con),(46,M46.con)]
theorem Q5:QG Try.prog cl:=⟨M18.Q1,M19.Q1,M20.Q1,M21.Q1,M23.Q1,M47.Q1,M26.Q1,M45.Q1,M39.Q1,M46.Q1,trivial⟩
def E0:Env:=⟨ty,QL cl,fun _=>none,none⟩
def m(x:gX):Option fY:=Q0 (M18.m ⟨[(x.ar,x.ac,x.aa),(x.br,x.bc,x.ba)]⟩) fun y=>bif !y then Q0 (M19.m PUnit.unit) fun y=>some y else Q0 (M20.m ⟨x.ar,x.ac,x.aa⟩) fun y=>Q0 (M21.m ⟨x.ar,x.ac,x.aa,y.1,y.1⟩) fun y_1=>Q0 (M23.m ⟨y_1,y.1⟩) fun y_2=>Q0 (M21.m ⟨x.br,x.bc,x.ba,y.1,y.1⟩) fun y_3=>Q0 (M23.m ⟨y_3,y.1⟩) fun y_4=>Q0 (M47.m ⟨y_2.1,y_2.2⟩) fun y_5=>Q0 (M26.m ⟨y_2.1,y_2.2⟩) fun y_6=>bif bif bif y_6.2 !=0 then true else !(y_5.2.2==0)==(y_6.1==y.1) then true else bif y_5.2.2 !=0 then bif bif y_5.2.2 !=9 then true else y_5.1 !=0 then true else decide ((↑y_5.2.1.length:Int)>0) else false then some false else bif y_5.2.2 !=0 then Q0 (M19.m PUnit.unit) fun y=>some y else Q0 (M45.m ⟨y.1⟩) fun y_7=>Q0 (M39.m ⟨y_5.1,y_5.2.1,y_2.1,y_2.2⟩) fun y_8=>Q0 (M39.m ⟨y_2.1,y_2.2,y_5.1,y_5.2.1⟩) fun y_9=>Q0 (M47.m ⟨y_4.1,y_4.2⟩) fun y_10=>Q0 (M39.m ⟨y_2.1,y_2.2,y_4.1,y_4.2⟩) fun y_11=>Q0 (M47.m ⟨y_11.1,y_11.2.1⟩) fun y_12=>Q0 (M39.m ⟨y_10.1,y_10.2.1,y_5.1,y_5.2.1⟩) fun y_13=>Q0 (bif (↑y_5.2.1.length:Int)==y.1 then M46.m ⟨y_8.1,y_8.2.1,y_7.1,y_7.2.1⟩ else some false) fun y_14=>Q0 (bif bif (↑y_5.2.1.length:Int)==y.1 then y_14 else false then M46.m ⟨y_9.1,y_9.2.1,y_7.1,y_7.2.1⟩ else some false) fun y_15=>Q0 (bif (bif bif bif (↑y_5.2.1.length:Int)==y.1 then y_14 else false then y_15 else false then y_10.2.2==y_12.2.2 else false)&&!y_10.2.2 !=0 then M46.m ⟨y_12.1,y_12.2.1,y_13.1,y_13.2.1⟩ else some false) fun y_16=>Q0 (bif bif bif bif bif (↑y_5.2.1.length:Int)==y.1 then y_14 else false then y_15 else false then y_10.2.2==y_12.2.2 else false then bif y_10.2.2 !=0 then true else y_16 else false then M19.m PUnit.unit else some false) fun y_17=>some (bif bif bif bif bif (↑y_5.2.1.length:Int)==y.1 then y_14 else false then y_15 else false then y_10.2.2==y_12.2.2 else false then bif y_10.2.2 !=0 then true else y_16 else false then y_17 else false)
theorem QJ(x:gX):exec E0 163 C8 0 (QN 0 (g.A x)) (g.H x) (finish 0 ty [.tmp 4] f)=m x:=by kernel_rfl
theorem tl:QI C8 0=[]:=by kernel_rfl
theorem known:QM Try.prog 8 g f m:=
 Q9 mixed (Q8 QC Q5 _) s8 rfl rfl tl QB.nil (fun _ _=>⟨rfl,rfl⟩) (fun _ _=>⟨rfl,rfl⟩) QJ
def con:Con:=Qx g f m default
theorem Q1:QO Try.prog 8 con:=QE known (fun _=>rfl) rfl
end M8
end Go.Proofs.Ytddaobhpffpmoaa
