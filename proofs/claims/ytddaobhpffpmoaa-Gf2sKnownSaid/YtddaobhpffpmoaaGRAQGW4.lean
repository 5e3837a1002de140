/-
  The functions of gf2s and shifters, run on symbolic values.
-/
import Derived.Test.YtddaobhpffpmoaaGRAQGc
import Derived.Test.YtddaobhpffpmoaaGRAQGa
set_option linter.all false
noncomputable section
namespace Go.Proofs.Ytddaobhpffpmoaa
open Go.Abs
set_option maxRecDepth 100000
namespace M7
structure gX where
 ar:Int
 ac:Int
 aa:List (Int)
 br:Int
 bc:Int
 ba:List (Int)
 cr:Int
 cc:Int
 ca:List (Int)
def g:Sg gX where
 vs:=[.agg [.it .u8,.it .u8,.arr (.int .u8)],.agg [.it .u8,.it .u8,.arr (.int .u8)],.agg [.it .u8,.it .u8,.arr (.int .u8)]]
 h:=[]
 to:=fun a b=>⟨a.1.1,a.1.2.1,a.1.2.2.1,a.2.1.1,a.2.1.2.1,a.2.1.2.2.1,a.2.2.1.1,a.2.2.1.2.1,a.2.2.1.2.2.1⟩
 fa:=fun x=>((x.ar,(x.ac,(x.aa,()))),((x.br,(x.bc,(x.ba,()))),((x.cr,(x.cc,(x.ca,()))),())))
 fh:=fun x=>()
abbrev fY:=Bool
def f:Ft fY where
 ord:=none
 sh:=.c (.bo)
 h:=[]
 to:=fun a b=>(a)
 fv:=fun y=>y
 fh:=fun y=>()
def cl:List (FuncId×Con):=[(18,M18.con),(19,M19.con),(20,M20.con),(21,M21.con),(23,M23.con),(39,M39.con),(45,M45.con),(40,M40.con),(46,M46.con),(26,M26.con)]
theorem Q5:QG Try.prog cl:=⟨M18.Q1,M19.Q1,M20.Q1,M21.Q1,M23.Q1,M39.Q1,M45.Q1,M40.Q1,M46.Q1,M26.Q1,trivial⟩
def E0:Env:=⟨ty,QL cl,fun _=>none,none⟩
def m(x:gX):Option fY:=Q0 (M18.m ⟨[(x.ar,x.ac,x.aa),(x.br,x.bc,x.ba),(x.cr,x.cc,x.ca)]⟩) fun y=>bif !y then Q0 (M19.m PUnit.unit) fun y=>some y else Q0 (M20.m ⟨x.ar,x.ac,x.aa⟩) fun y=>Q0 (M20.m ⟨x.br,x.bc,x.ba⟩) fun y_1=>Q0 (M21.m ⟨x.ar,x.ac,x.aa,y.1,y.2.tmod 12⟩) fun y_2=>Q0 (M23.m ⟨y_2,y.2.tmod 12⟩) fun y_3=>Q0 (M21.m ⟨x.br,x.bc,x.ba,y.2.tmod 12,y_1.1⟩) fun y_4=>Q0 (M23.m ⟨y_4,y_1.1⟩) fun y_5=>Q0 (M21.m ⟨x.cr,x.cc,x.ca,y_1.1,y_1.2.tmod 12⟩) fun y_6=>Q0 (M23.m ⟨y_6,y_1.2.tmod 12⟩) fun y_7=>Q0 (M39.m ⟨y_3.1,y_3.2,y_5.1,y_5.2⟩) fun y_8=>Q0 (M39.m ⟨y_5.1,y_5.2,y_7.1,y_7.2⟩) fun y_9=>Q0 (M39.m ⟨y_8.1,y_8.2.1,y_7.1,y_7.2⟩) fun y_10=>Q0 (M39.m ⟨y_3.1,y_3.2,y_9.1,y_9.2.1⟩) fun y_11=>Q0 (M45.m ⟨y.2.tmod 12⟩) fun y_12=>Q0 (M39.m ⟨y_3.1,y_3.2,y_12.1,y_12.2.1⟩) fun y_13=>Q0 (M40.m ⟨y_3.1,y_3.2⟩) fun y_14=>Q0 (M40.m ⟨y_5.1,y_5.2⟩) fun y_15=>Q0 (M40.m ⟨y_8.1,y_8.2.1⟩) fun y_16=>Q0 (M39.m ⟨y_15.1,y_15.2.1,y_14.1,y_14.2.1⟩) fun y_17=>Q0 (bif !bif bif bif bif bif bif bif y_8.2.2 !=0 then true else y_9.2.2 !=0 then true else y_10.2.2 !=0 then true else y_11.2.2 !=0 then true else y_12.2.2 !=0 then true else y_13.2.2 !=0 then true else y_16.2.2 !=0 then true else y_17.2.2 !=0 then M46.m ⟨y_10.1,y_10.2.1,y_11.1,y_11.2.1⟩ else some false) fun y_18=>Q0 (bif !bif bif bif bif bif bif bif bif bif y_8.2.2 !=0 then true else y_9.2.2 !=0 then true else y_10.2.2 !=0 then true else y_11.2.2 !=0 then true else y_12.2.2 !=0 then true else y_13.2.2 !=0 then true else y_16.2.2 !=0 then true else y_17.2.2 !=0 then true else !y_18 then true else (↑y_10.2.1.length:Int) !=y.1 then M46.m ⟨y_13.1,y_13.2.1,y_3.1,y_3.2⟩ else some false) fun y_19=>Q0 (bif !bif bif bif bif bif bif bif bif bif bif y_8.2.2 !=0 then true else y_9.2.2 !=0 then true else y_10.2.2 !=0 then true else y_11.2.2 !=0 then true else y_12.2.2 !=0 then true else y_13.2.2 !=0 then true else y_16.2.2 !=0 then true else y_17.2.2 !=0 then true else !y_18 then true else (↑y_10.2.1.length:Int) !=y.1 then true else !y_19 then M46.m ⟨y_16.1,y_16.2.1,y_17.1,y_17.2.1⟩ else some false) fun y_20=>bif bif bif bif bif bif bif bif bif bif bif bif y_8.2.2 !=0 then true else y_9.2.2 !=0 then true else y_10.2.2 !=0 then true else y_11.2.2 !=0 then true else y_12.2.2 !=0 then true else y_13.2.2 !=0 then true else y_16.2.2 !=0 then true else y_17.2.2 !=0 then true else !y_18 then true else (↑y_10.2.1.length:Int) !=y.1 then true else !y_19 then true else !y_20 then some false else Q0 (M26.m ⟨y_3.1,y_3.2⟩) fun y=>Q0 (M26.m ⟨y_14.1,y_14.2.1⟩) fun y_21=>Q0 (M26.m ⟨y_8.1,y_8.2.1⟩) fun y_22=>Q0 (M26.m ⟨y_5.1,y_5.2⟩) fun y_23=>Q0 (bif bif bif bif bif bif bif y.2==0 then y_21.2==0 else false then y_22.2==0 else false then y_23.2==0 else false then y.1==y_21.1 else false then decide (y_22.1≤y.1) else false then decide (y_22.1≤y_23.1) else false then M19.m PUnit.unit else some false) fun y_24=>some (bif bif bif bif bif bif bif y.2==0 then y_21.2==0 else false then y_22.2==0 else false then y_23.2==0 else false then y.1==y_21.1 else false then decide (y_22.1≤y.1) else false then decide (y_22.1≤y_23.1) else false then y_24 else false)
theorem QJ(x:gX):exec E0 244 C7 0 (QN 0 (g.A x)) (g.H x) (finish 0 ty [.tmp 6] f)=m x:=by kernel_rfl
theorem tl:QI C7 0=[]:=by kernel_rfl
theorem known:QM Try.prog 7 g f m:=
 Q9 mixed (Q8 QC Q5 _) s7 rfl rfl tl QB.nil (fun _ _=>⟨rfl,rfl⟩) (fun _ _=>⟨rfl,rfl⟩) QJ
def con:Con:=Qx g f m default
theorem Q1:QO Try.prog 7 con:=QE known (fun _=>rfl) rfl
end M7
end Go.Proofs.Ytddaobhpffpmoaa
