/-
  The functions of gf2s and shifters, run on symbolic values.
-/
import Derived.Test.YtddaobhpffpmoaaSR1QGu
import Derived.Test.YtddaobhpffpmoaaSR1QGj
set_option linter.all false
noncomputable section
namespace Go.Proofs.Ytddaobhpffpmoaa
open Go.Abs
set_option maxRecDepth 100000
namespace M16
structure gX where
 n:Int
 t:Int
 sa:Int
 sb:Int
 ka:Int
 kb:Int
def g:Sg gX where
 vs:=[.agg [.it .u8,.it .u64],.agg [.it .u64,.it .u64],.agg [.it .u64,.it .u64]]
 h:=[]
 to:=fun a b=>⟨a.1.1,a.1.2.1,a.2.1.1,a.2.1.2.1,a.2.2.1.1,a.2.2.1.2.1⟩
 fa:=fun x=>((x.n,(x.t,())),((x.sa,(x.sb,())),((x.ka,(x.kb,())),())))
 fh:=fun x=>()
abbrev fY:=Bool
def f:Ft fY where
 ord:=none
 sh:=.c (.bo)
 h:=[]
 to:=fun a b=>(a)
 fv:=fun y=>y
 fh:=fun y=>()
def cl:List (FuncId×Con):=[(54,M54.con),(58,M58.con),(70,M70.con),(66,M66.con),(29,M29.con),(32,M32.con),(57,M57.con),(69,M69.con),(56,M56.con),(59,M59.con)]
theorem cl_ok:allCon Try.prog cl:=⟨M54.con_ok,M58.con_ok,M70.con_ok,M66.con_ok,M29.con_ok,M32.con_ok,M57.con_ok,M69.con_ok,M56.con_ok,M59.con_ok,trivial⟩
def E0:Env:=⟨ty,cfOf cl,fun _=>none,none⟩
def m(x:gX):Option fY:=bindO (M54.m ⟨x.n,x.t⟩) fun y=>bif decide (0≤y.1) then bif nz (IntKind.u64.wrap (1*2^min y.1.toNat 64)) then bif decide (0≤y.1) then bif nz (IntKind.u64.wrap (1*2^min y.1.toNat 64)) then bindO (M58.m ⟨y.1,y.2,x.sa.tmod (IntKind.u64.wrap (1*2^min y.1.toNat 64))⟩) fun y_1=>bindO (M58.m ⟨y.1,y.2,x.sb.tmod (IntKind.u64.wrap (1*2^min y.1.toNat 64))⟩) fun y_2=>bindO (M58.m ⟨y.1,y.2,IntKind.u64.wrap (↑(BitVec.ofInt 64 (x.sa.tmod (IntKind.u64.wrap (1*2^min y.1.toNat 64)))^^^BitVec.ofInt 64 (x.sb.tmod (IntKind.u64.wrap (1*2^min y.1.toNat 64)))).toNat:Int)⟩) fun y_3=>bindO (M70.m ⟨y.1,y.2⟩) fun y_4=>bindO (M66.m ⟨x.sa.tmod (IntKind.u64.wrap (1*2^min y.1.toNat 64)),y.1⟩) fun y_5=>bindO (M29.m ⟨y_4.1,y_4.2.1,y_5.1,y_5.2⟩) fun y_6=>bindO (bif !bif bif bif bif y_1.2 !=0 then true else y_2.2 !=0 then true else y_3.2 !=0 then true else y_4.2.2 !=0 then true else y_6.2.2 !=0 then M57.m ⟨y.1,y.2,x.sa.tmod (IntKind.u64.wrap (1*2^min y.1.toNat 64))⟩ else some (Int.ofNat 0)) fun y_7=>bindO (bif !bif bif bif bif bif bif bif y_1.2 !=0 then true else y_2.2 !=0 then true else y_3.2 !=0 then true else y_4.2.2 !=0 then true else y_6.2.2 !=0 then true else y_1.1 !=y_7 then true else y_3.1 !=IntKind.u64.wrap (↑(BitVec.ofInt 64 y_1.1^^^BitVec.ofInt 64 y_2.1).toNat:Int) then true else (↑y_4.2.1.length:Int) !=y.1 then M32.m ⟨y_6.1,y_6.2.1⟩ else some []) fun y_8=>bindO (bif !bif bif bif bif bif bif bif y_1.2 !=0 then true else y_2.2 !=0 then true else y_3.2 !=0 then true else y_4.2.2 !=0 then true else y_6.2.2 !=0 then true else y_1.1 !=y_7 then true else y_3.1 !=IntKind.u64.wrap (↑(BitVec.ofInt 64 y_1.1^^^BitVec.ofInt 64 y_2.1).toNat:Int) then true else (↑y_4.2.1.length:Int) !=y.1 then M66.m ⟨y_1.1,y.1⟩ else some (Int.ofNat 0,[])) fun y_9=>bindO (bif !bif bif bif bif bif bif bif y_1.2 !=0 then true else y_2.2 !=0 then true else y_3.2 !=0 then true else y_4.2.2 !=0 then true else y_6.2.2 !=0 then true else y_1.1 !=y_7 then true else y_3.1 !=IntKind.u64.wrap (↑(BitVec.ofInt 64 y_1.1^^^BitVec.ofInt 64 y_2.1).toNat:Int) then true else (↑y_4.2.1.length:Int) !=y.1 then M32.m ⟨y_9.1,y_9.2⟩ else some []) fun y_10=>bif bif bif bif bif bif bif bif bif y_1.2 !=0 then true else y_2.2 !=0 then true else y_3.2 !=0 then true else y_4.2.2 !=0 then true else y_6.2.2 !=0 then true else y_1.1 !=y_7 then true else y_3.1 !=IntKind.u64.wrap (↑(BitVec.ofInt 64 y_1.1^^^BitVec.ofInt 64 y_2.1).toNat:Int) then true else (↑y_4.2.1.length:Int) !=y.1 then true else !y_8==y_10 then some false else bindO (M69.m ⟨y.1,y.2,x.sa.tmod (IntKind.u64.wrap (1*2^min y.1.toNat 64)),IntKind.u64.wrap (IntKind.i64.wrap (x.ka.tmod 200))⟩) fun y_11=>bindO (M69.m ⟨y.1,y.2,x.sa.tmod (IntKind.u64.wrap (1*2^min y.1.toNat 64)),IntKind.u64.wrap (x.ka.tdiv 2)⟩) fun y_12=>bindO (M69.m ⟨y.1,y.2,y_12.1,IntKind.u64.wrap (x.kb.tdiv 2)⟩) fun y_13=>bindO (M69.m ⟨y.1,y.2,x.sa.tmod (IntKind.u64.wrap (1*2^min y.1.toNat 64)),IntKind.u64.wrap (IntKind.u64.wrap (x.ka.tdiv 2)+IntKind.u64.wrap (x.kb.tdiv 2))⟩) fun y_14=>bindO (bif bif bif bif y_11.2==0 then y_12.2==0 else false then y_13.2==0 else false then y_14.2==0 else false then M56.m ⟨y.1,y.2,x.sa.tmod (IntKind.u64.wrap (1*2^min y.1.toNat 64)),IntKind.i64.wrap (x.ka.tmod 200)⟩ else some (Int.ofNat 0)) fun y=>bindO (bif bif bif bif bif bif y_11.2==0 then y_12.2==0 else false then y_13.2==0 else false then y_14.2==0 else false then y_11.1==y else false then y_13.1==y_14.1 else false then M59.m PUnit.unit else some false) fun y_15=>some (bif bif bif bif bif bif y_11.2==0 then y_12.2==0 else false then y_13.2==0 else false then y_14.2==0 else false then y_11.1==y else false then y_13.1==y_14.1 else false then y_15 else false) else none else none else none else none
theorem m_eq(x:gX):exec E0 196 C16 0 (initS 0 (g.A x)) (g.H x) (finish 0 ty [.tmp 6] f)=m x:=by kernel_rfl
theorem tl:topL C16 0=[]:=by kernel_rfl
theorem known:Known Try.prog 16 g f m:=
 mk_known mixed (env_ok ty_ok cl_ok _) s16 rfl rfl tl AllL.nil (fun _ _=>⟨rfl,rfl⟩) (fun _ _=>⟨rfl,rfl⟩) m_eq
end M16
end Go.Proofs.Ytddaobhpffpmoaa
