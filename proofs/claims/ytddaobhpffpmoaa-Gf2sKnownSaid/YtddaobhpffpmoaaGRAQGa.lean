/-
  What the proof stands on.
-/
import Derived.Test.YtddaobhpffpmoaaGRAQG9
set_option linter.all false
noncomputable section
namespace Go.Proofs.Ytddaobhpffpmoaa
open Go.Abs
set_option maxRecDepth 100000
namespace M85
structure gX where
 n:Int
def g:Sg gX where
 vs:=[.c (.it .i64)]
 h:=[]
 to:=fun a b=>⟨a.1⟩
 fa:=fun x=>(x.n,())
 fh:=fun x=>()
abbrev fY:=Int
def f:Ft fY where
 ord:=none
 sh:=.c (.it .i64)
 h:=[]
 to:=fun a b=>(a)
 fv:=fun y=>y
 fh:=fun y=>()
def cl:List (FuncId×Con):=[]
theorem Q5:QG Try.prog cl:=trivial
def E0:Env:=⟨ty,QL cl,fun _=>none,none⟩
def m(x:gX):Option fY:=bif decide (x.n<0) then some 1 else bif decide (x.n>4096) then some 3 else some 0
theorem QJ(x:gX):exec E0 9 C85 0 (QN 0 (g.A x)) (g.H x) (finish 0 ty [.tmp 2] f)=m x:=by kernel_rfl
theorem tl:QI C85 0=[]:=by kernel_rfl
theorem known:QM Try.prog 85 g f m:=
 Q9 mixed (Q8 QC Q5 _) s85 rfl rfl tl QB.nil (fun _ _=>⟨rfl,rfl⟩) (fun _ _=>⟨rfl,rfl⟩) QJ
def con:Con:=Qx g f m default
theorem Q1:QO Try.prog 85 con:=QE known (fun _=>rfl) rfl
end M85
namespace M86
structure gX where
 n:Int
def g:Sg gX where
 vs:=[.c (.it .i64)]
 h:=[]
 to:=fun a b=>⟨a.1⟩
 fa:=fun x=>(x.n,())
 fh:=fun x=>()
abbrev fY:=Int
def f:Ft fY where
 ord:=none
 sh:=.c (.it .i64)
 h:=[]
 to:=fun a b=>(a)
 fv:=fun y=>y
 fh:=fun y=>()
def cl:List (FuncId×Con):=[]
theorem Q5:QG Try.prog cl:=trivial
def E0:Env:=⟨ty,QL cl,fun _=>none,none⟩
def m(x:gX):Option fY:=some (IntKind.i64.wrap ((IntKind.i64.wrap (x.n+63)).tdiv 64))
theorem QJ(x:gX):exec E0 6 C86 0 (QN 0 (g.A x)) (g.H x) (finish 0 ty [.tmp 2] f)=m x:=by kernel_rfl
theorem tl:QI C86 0=[]:=by kernel_rfl
theorem known:QM Try.prog 86 g f m:=
 Q9 mixed (Q8 QC Q5 _) s86 rfl rfl tl QB.nil (fun _ _=>⟨rfl,rfl⟩) (fun _ _=>⟨rfl,rfl⟩) QJ
def con:Con:=Qx g f m default
theorem Q1:QO Try.prog 86 con:=QE known (fun _=>rfl) rfl
end M86
namespace M73
structure gX where
 n:Int
def g:Sg gX where
 vs:=[.c (.it .i64)]
 h:=[]
 to:=fun a b=>⟨a.1⟩
 fa:=fun x=>(x.n,())
 fh:=fun x=>()
abbrev fY:=Int×Nat×Nat×Nat×List (Int)
def f:Ft fY where
 ord:=some [1,0]
 sh:=.agg [.it .i64,.slc 0 0 1]
 h:=[.arr (.int .u64) 0]
 to:=fun a b=>(a.1,a.2.1.1,a.2.1.2.1,a.2.1.2.2,b.1)
 fv:=fun y=>(y.1,((y.2.1,y.2.2.1,y.2.2.2.1),()))
 fh:=fun y=>(y.2.2.2.2,())
def cl:List (FuncId×Con):=[(86,M86.con)]
theorem Q5:QG Try.prog cl:=⟨M86.Q1,trivial⟩
def E0:Env:=⟨ty,QL cl,fun _=>none,none⟩
def m(x:gX):Option fY:=Q0 (M86.m ⟨x.n⟩) fun y=>bif decide (0≤y)&&decide (y≤y)&&decide (y*(↑8:Int)≤281474976710656)&&decide (y≤9223372036854775807) then some (x.n,0,Int.toNat y,Int.toNat y,List.replicate (Int.toNat y) 0) else none
theorem QJ(x:gX):exec E0 8 C73 0 (QN 0 (g.A x)) (g.H x) (finish 0 ty [.cell 2 34] f)=m x:=by kernel_rfl
theorem tl:QI C73 0=[]:=by kernel_rfl
theorem known:QM Try.prog 73 g f m:=
 Q9 mixed (Q8 QC Q5 _) s73 rfl rfl tl QB.nil (fun _ _=>⟨rfl,rfl⟩) (fun _ _=>⟨rfl,rfl⟩) QJ
def con:Con:=j4 g [] f m default
theorem Q1:QO Try.prog 73 con:=ZZ known
end M73
namespace M74
structure gX where
 n:Int
 w:List (Int)
 i:Int
def g:Sg gX where
 vs:=[.agg [.it .i64,.arr (.int .u64)],.c (.it .i64)]
 h:=[]
 to:=fun a b=>⟨a.1.1,a.1.2.1,a.2.1⟩
 fa:=fun x=>((x.n,(x.w,())),(x.i,()))
 fh:=fun x=>()
abbrev fY:=Bool
def f:Ft fY where
 ord:=none
 sh:=.c (.bo)
 h:=[]
 to:=fun a b=>(a)
 fv:=fun y=>y
 fh:=fun y=>()
def cl:List (FuncId×Con):=[]
theorem Q5:QG Try.prog cl:=trivial
def E0:Env:=⟨ty,QL cl,fun _=>none,none⟩
def m(x:gX):Option fY:=bif inR (IntKind.i64.wrap (x.i.tdiv 64)) x.w.length then bif decide (0≤x.i.tmod 64) then some (IntKind.u64.wrap (↑(BitVec.ofInt 64 (Int.fdiv (x.w[(IntKind.i64.wrap (x.i.tdiv 64)).toNat]?.getD 0) (2^min (x.i.tmod 64).toNat 64))&&&BitVec.ofInt 64 1).toNat:Int)==1) else none else none
theorem QJ(x:gX):exec E0 16 C74 0 (QN 0 (g.A x)) (g.H x) (finish 0 ty [.tmp 4] f)=m x:=by kernel_rfl
theorem tl:QI C74 0=[]:=by kernel_rfl
theorem known:QM Try.prog 74 g f m:=
 Q9 mixed (Q8 QC Q5 _) s74 rfl rfl tl QB.nil (fun _ _=>⟨rfl,rfl⟩) (fun _ _=>⟨rfl,rfl⟩) QJ
def con:Con:=Qx g f m default
theorem Q1:QO Try.prog 74 con:=QE known (fun _=>rfl) rfl
end M74
namespace M75
structure gX where
 n:Int
 w_lo:Nat
 w_len:Nat
 w_cap:Nat
 i:Int
 ws:List (Int)
def g:Sg gX where
 vs:=[.agg [.it .i64,.slc 0 0 1],.c (.it .i64)]
 h:=[.arr (.int .u64) 0]
 to:=fun a b=>⟨a.1.1,a.1.2.1.1,a.1.2.1.2.1,a.1.2.1.2.2,a.2.1,b.1⟩
 fa:=fun x=>((x.n,((x.w_lo,x.w_len,x.w_cap),())),(x.i,()))
 fh:=fun x=>(x.ws,())
abbrev fY:=List (Int)
def f:Ft fY where
 ord:=none
 sh:=.tup []
 h:=[.arr (.int .u64) 0]
 to:=fun a b=>(b.1)
 fv:=fun y=>()
 fh:=fun y=>(y,())
def cl:List (FuncId×Con):=[]
theorem Q5:QG Try.prog cl:=trivial
def E0:Env:=⟨ty,QL cl,fun _=>none,none⟩
def m(x:gX):Option fY:=bif inR (IntKind.i64.wrap (x.i.tdiv 64)) x.w_len then bif decide (x.w_lo+(IntKind.i64.wrap (x.i.tdiv 64)).toNat<x.ws.length) then bif decide (0≤x.i.tmod 64) then bif inR (IntKind.i64.wrap (x.i.tdiv 64)) x.w_len then bif decide (x.w_lo+(IntKind.i64.wrap (x.i.tdiv 64)).toNat<x.ws.length) then some (x.ws.set (x.w_lo+(IntKind.i64.wrap (x.i.tdiv 64)).toNat) (IntKind.u64.wrap (↑(BitVec.ofInt 64 (x.ws[x.w_lo+(IntKind.i64.wrap (x.i.tdiv 64)).toNat]?.getD 0)^^^BitVec.ofInt 64 (IntKind.u64.wrap (1*2^min (x.i.tmod 64).toNat 64))).toNat:Int))) else none else none else none else none else none
theorem QJ(x:gX):exec E0 15 C75 0 (QN 0 (g.A x)) (g.H x) (finish 1 ty [] f)=m x:=by kernel_rfl
theorem tl:QI C75 0=[]:=by kernel_rfl
theorem known:QM Try.prog 75 g f m:=
 Q9 mixed (Q8 QC Q5 _) s75 rfl rfl tl QB.nil (fun _ _=>⟨rfl,rfl⟩) (fun _ _=>⟨rfl,rfl⟩) QJ
def con:Con:=j4 g [.arg 0 1] f m default
theorem Q1:QO Try.prog 75 con:=ZZ known
end M75
namespace M51
structure gX where
 n:Int
def g:Sg gX where
 vs:=[.c (.it .i64)]
 h:=[]
 to:=fun a b=>⟨a.1⟩
 fa:=fun x=>(x.n,())
 fh:=fun x=>()
abbrev fY:=Int×Nat×Nat×Nat×Int×List (Int)
def f:Ft fY where
 ord:=some [1,0]
 sh:=.tup [.inr [.it .i64,.slc 0 0 1],.inl (.it .i64)]
 h:=[.arr (.int .u64) 0]
 to:=fun a b=>(a.1.1,a.1.2.1.1,a.1.2.1.2.1,a.1.2.1.2.2,a.2.1,b.1)
 fv:=fun y=>((y.1,((y.2.1,y.2.2.1,y.2.2.2.1),())),(y.2.2.2.2.1,()))
 fh:=fun y=>(y.2.2.2.2.2,())
def cl:List (FuncId×Con):=[(85,M85.con),(73,M73.con)]
theorem Q5:QG Try.prog cl:=⟨M85.Q1,M73.Q1,trivial⟩
def E0:Env:=⟨ty,QL cl,fun _=>none,none⟩
def m(x:gX):Option fY:=Q0 (M85.m ⟨x.n⟩) fun y=>bif y !=0 then none else Q0 (M73.m ⟨x.n⟩) fun y=>some (y.1,y.2.1,y.2.2.1,y.2.2.2.1,0,y.2.2.2.2)
theorem QJ(x:gX):exec E0 13 C51 0 (QN 0 (g.A x)) (g.H x) (finish 0 ty [.cell 2 34,.tmp 3] f)=m x:=by kernel_rfl
theorem tl:QI C51 0=[]:=by kernel_rfl
theorem known:QM Try.prog 51 g f m:=
 Q9 mixed (Q8 QC Q5 _) s51 rfl rfl tl QB.nil (fun _ _=>⟨rfl,rfl⟩) (fun _ _=>⟨rfl,rfl⟩) QJ
def con:Con:=j4 g [] f m default
theorem Q1:QO Try.prog 51 con:=ZZ known
end M51
namespace M38
structure gX where
 n:Int
 w:List (Int)
def g:Sg gX where
 vs:=[.agg [.it .i64,.arr (.int .u64)]]
 h:=[]
 to:=fun a b=>⟨a.1.1,a.1.2.1⟩
 fa:=fun x=>((x.n,(x.w,())),())
 fh:=fun x=>()
abbrev fY:=Int
def f:Ft fY where
 ord:=none
 sh:=.c (.it .i64)
 h:=[]
 to:=fun a b=>(a)
 fv:=fun y=>y
 fh:=fun y=>()
def cl:List (FuncId×Con):=[(85,M85.con),(86,M86.con)]
theorem Q5:QG Try.prog cl:=⟨M85.Q1,M86.Q1,trivial⟩
def E0:Env:=⟨ty,QL cl,fun _=>none,none⟩
def m(x:gX):Option fY:=Q0 (M85.m ⟨x.n⟩) fun y=>bif y !=0 then some y else Q0 (M86.m ⟨x.n⟩) fun y=>bif (↑x.w.length:Int) !=y then some 8 else bif inR (IntKind.i64.wrap ((↑x.w.length:Int) - 1)) x.w.length||!decide (x.n.tmod 64>0) then bif decide (0≤x.n.tmod 64)||!decide (x.n.tmod 64>0) then bif bif decide (x.n.tmod 64>0) then Int.fdiv (x.w[(IntKind.i64.wrap ((↑x.w.length:Int) - 1)).toNat]?.getD 0) (2^min (x.n.tmod 64).toNat 64) !=0 else false then some 1 else some 0 else none else none
theorem QJ(x:gX):exec E0 36 C38 0 (QN 0 (g.A x)) (g.H x) (finish 0 ty [.tmp 2] f)=m x:=by kernel_rfl
theorem tl:QI C38 0=[]:=by kernel_rfl
theorem known:QM Try.prog 38 g f m:=
 Q9 mixed (Q8 QC Q5 _) s38 rfl rfl tl QB.nil (fun _ _=>⟨rfl,rfl⟩) (fun _ _=>⟨rfl,rfl⟩) QJ
def con:Con:=Qx g f m default
theorem Q1:QO Try.prog 38 con:=QE known (fun _=>rfl) rfl
end M38
namespace M108
structure gX where
 x:Int
def g:Sg gX where
 vs:=[.c (.it .u64)]
 h:=[]
 to:=fun a b=>⟨a.1⟩
 fa:=fun x=>(x.x,())
 fh:=fun x=>()
abbrev fY:=Int
def f:Ft fY where
 ord:=none
 sh:=.c (.it .i64)
 h:=[]
 to:=fun a b=>(a)
 fv:=fun y=>y
 fh:=fun y=>()
def cl:List (FuncId×Con):=[]
theorem Q5:QG Try.prog cl:=trivial
def E0:Env:=⟨ty,QL cl,fun _=>none,none⟩
def m(x:gX):Option fY:=some (IntKind.i64.wrap (↑(BitVec.ofInt 64 (IntKind.i64.wrap (IntKind.u64.wrap (IntKind.u64.wrap (IntKind.u64.wrap (IntKind.u64.wrap (↑(BitVec.ofInt 64 (IntKind.u64.wrap ((IntKind.u64.wrap (IntKind.u64.wrap (↑(BitVec.ofInt 64 ((IntKind.u64.wrap (IntKind.u64.wrap (↑(BitVec.ofInt 64 (x.x.fdiv (2^1))&&&BitVec.ofInt 64 6148914691236517205).toNat:Int)+IntKind.u64.wrap (↑(BitVec.ofInt 64 x.x&&&BitVec.ofInt 64 6148914691236517205).toNat:Int))).fdiv (2^2))&&&BitVec.ofInt 64 3689348814741910323).toNat:Int)+IntKind.u64.wrap (↑(BitVec.ofInt 64 (IntKind.u64.wrap (IntKind.u64.wrap (↑(BitVec.ofInt 64 (x.x.fdiv (2^1))&&&BitVec.ofInt 64 6148914691236517205).toNat:Int)+IntKind.u64.wrap (↑(BitVec.ofInt 64 x.x&&&BitVec.ofInt 64 6148914691236517205).toNat:Int)))&&&BitVec.ofInt 64 3689348814741910323).toNat:Int))).fdiv (2^4)+IntKind.u64.wrap (IntKind.u64.wrap (↑(BitVec.ofInt 64 ((IntKind.u64.wrap (IntKind.u64.wrap (↑(BitVec.ofInt 64 (x.x.fdiv (2^1))&&&BitVec.ofInt 64 6148914691236517205).toNat:Int)+IntKind.u64.wrap (↑(BitVec.ofInt 64 x.x&&&BitVec.ofInt 64 6148914691236517205).toNat:Int))).fdiv (2^2))&&&BitVec.ofInt 64 3689348814741910323).toNat:Int)+IntKind.u64.wrap (↑(BitVec.ofInt 64 (IntKind.u64.wrap (IntKind.u64.wrap (↑(BitVec.ofInt 64 (x.x.fdiv (2^1))&&&BitVec.ofInt 64 6148914691236517205).toNat:Int)+IntKind.u64.wrap (↑(BitVec.ofInt 64 x.x&&&BitVec.ofInt 64 6148914691236517205).toNat:Int)))&&&BitVec.ofInt 64 3689348814741910323).toNat:Int))))&&&BitVec.ofInt 64 1085102592571150095).toNat:Int)+(IntKind.u64.wrap (↑(BitVec.ofInt 64 (IntKind.u64.wrap ((IntKind.u64.wrap (IntKind.u64.wrap (↑(BitVec.ofInt 64 ((IntKind.u64.wrap (IntKind.u64.wrap (↑(BitVec.ofInt 64 (x.x.fdiv (2^1))&&&BitVec.ofInt 64 6148914691236517205).toNat:Int)+IntKind.u64.wrap (↑(BitVec.ofInt 64 x.x&&&BitVec.ofInt 64 6148914691236517205).toNat:Int))).fdiv (2^2))&&&BitVec.ofInt 64 3689348814741910323).toNat:Int)+IntKind.u64.wrap (↑(BitVec.ofInt 64 (IntKind.u64.wrap (IntKind.u64.wrap (↑(BitVec.ofInt 64 (x.x.fdiv (2^1))&&&BitVec.ofInt 64 6148914691236517205).toNat:Int)+IntKind.u64.wrap (↑(BitVec.ofInt 64 x.x&&&BitVec.ofInt 64 6148914691236517205).toNat:Int)))&&&BitVec.ofInt 64 3689348814741910323).toNat:Int))).fdiv (2^4)+IntKind.u64.wrap (IntKind.u64.wrap (↑(BitVec.ofInt 64 ((IntKind.u64.wrap (IntKind.u64.wrap (↑(BitVec.ofInt 64 (x.x.fdiv (2^1))&&&BitVec.ofInt 64 6148914691236517205).toNat:Int)+IntKind.u64.wrap (↑(BitVec.ofInt 64 x.x&&&BitVec.ofInt 64 6148914691236517205).toNat:Int))).fdiv (2^2))&&&BitVec.ofInt 64 3689348814741910323).toNat:Int)+IntKind.u64.wrap (↑(BitVec.ofInt 64 (IntKind.u64.wrap (IntKind.u64.wrap (↑(BitVec.ofInt 64 (x.x.fdiv (2^1))&&&BitVec.ofInt 64 6148914691236517205).toNat:Int)+IntKind.u64.wrap (↑(BitVec.ofInt 64 x.x&&&BitVec.ofInt 64 6148914691236517205).toNat:Int)))&&&BitVec.ofInt 64 3689348814741910323).toNat:Int))))&&&BitVec.ofInt 64 1085102592571150095).toNat:Int)).fdiv (2^8))+(IntKind.u64.wrap (IntKind.u64.wrap (↑(BitVec.ofInt 64 (IntKind.u64.wrap ((IntKind.u64.wrap (IntKind.u64.wrap (↑(BitVec.ofInt 64 ((IntKind.u64.wrap (IntKind.u64.wrap (↑(BitVec.ofInt 64 (x.x.fdiv (2^1))&&&BitVec.ofInt 64 6148914691236517205).toNat:Int)+IntKind.u64.wrap (↑(BitVec.ofInt 64 x.x&&&BitVec.ofInt 64 6148914691236517205).toNat:Int))).fdiv (2^2))&&&BitVec.ofInt 64 3689348814741910323).toNat:Int)+IntKind.u64.wrap (↑(BitVec.ofInt 64 (IntKind.u64.wrap (IntKind.u64.wrap (↑(BitVec.ofInt 64 (x.x.fdiv (2^1))&&&BitVec.ofInt 64 6148914691236517205).toNat:Int)+IntKind.u64.wrap (↑(BitVec.ofInt 64 x.x&&&BitVec.ofInt 64 6148914691236517205).toNat:Int)))&&&BitVec.ofInt 64 3689348814741910323).toNat:Int))).fdiv (2^4)+IntKind.u64.wrap (IntKind.u64.wrap (↑(BitVec.ofInt 64 ((IntKind.u64.wrap (IntKind.u64.wrap (↑(BitVec.ofInt 64 (x.x.fdiv (2^1))&&&BitVec.ofInt 64 6148914691236517205).toNat:Int)+IntKind.u64.wrap (↑(BitVec.ofInt 64 x.x&&&BitVec.ofInt 64 6148914691236517205).toNat:Int))).fdiv (2^2))&&&BitVec.ofInt 64 3689348814741910323).toNat:Int)+IntKind.u64.wrap (↑(BitVec.ofInt 64 (IntKind.u64.wrap (IntKind.u64.wrap (↑(BitVec.ofInt 64 (x.x.fdiv (2^1))&&&BitVec.ofInt 64 6148914691236517205).toNat:Int)+IntKind.u64.wrap (↑(BitVec.ofInt 64 x.x&&&BitVec.ofInt 64 6148914691236517205).toNat:Int)))&&&BitVec.ofInt 64 3689348814741910323).toNat:Int))))&&&BitVec.ofInt 64 1085102592571150095).toNat:Int)+(IntKind.u64.wrap (↑(BitVec.ofInt 64 (IntKind.u64.wrap ((IntKind.u64.wrap (IntKind.u64.wrap (↑(BitVec.ofInt 64 ((IntKind.u64.wrap (IntKind.u64.wrap (↑(BitVec.ofInt 64 (x.x.fdiv (2^1))&&&BitVec.ofInt 64 6148914691236517205).toNat:Int)+IntKind.u64.wrap (↑(BitVec.ofInt 64 x.x&&&BitVec.ofInt 64 6148914691236517205).toNat:Int))).fdiv (2^2))&&&BitVec.ofInt 64 3689348814741910323).toNat:Int)+IntKind.u64.wrap (↑(BitVec.ofInt 64 (IntKind.u64.wrap (IntKind.u64.wrap (↑(BitVec.ofInt 64 (x.x.fdiv (2^1))&&&BitVec.ofInt 64 6148914691236517205).toNat:Int)+IntKind.u64.wrap (↑(BitVec.ofInt 64 x.x&&&BitVec.ofInt 64 6148914691236517205).toNat:Int)))&&&BitVec.ofInt 64 3689348814741910323).toNat:Int))).fdiv (2^4)+IntKind.u64.wrap (IntKind.u64.wrap (↑(BitVec.ofInt 64 ((IntKind.u64.wrap (IntKind.u64.wrap (↑(BitVec.ofInt 64 (x.x.fdiv (2^1))&&&BitVec.ofInt 64 6148914691236517205).toNat:Int)+IntKind.u64.wrap (↑(BitVec.ofInt 64 x.x&&&BitVec.ofInt 64 6148914691236517205).toNat:Int))).fdiv (2^2))&&&BitVec.ofInt 64 3689348814741910323).toNat:Int)+IntKind.u64.wrap (↑(BitVec.ofInt 64 (IntKind.u64.wrap (IntKind.u64.wrap (↑(BitVec.ofInt 64 (x.x.fdiv (2^1))&&&BitVec.ofInt 64 6148914691236517205).toNat:Int)+IntKind.u64.wrap (↑(BitVec.ofInt 64 x.x&&&BitVec.ofInt 64 6148914691236517205).toNat:Int)))&&&BitVec.ofInt 64 3689348814741910323).toNat:Int))))&&&BitVec.ofInt 64 1085102592571150095).toNat:Int)).fdiv (2^8))).fdiv (2^16))+(IntKind.u64.wrap (IntKind.u64.wrap (IntKind.u64.wrap (↑(BitVec.ofInt 64 (IntKind.u64.wrap ((IntKind.u64.wrap (IntKind.u64.wrap (↑(BitVec.ofInt 64 ((IntKind.u64.wrap (IntKind.u64.wrap (↑(BitVec.ofInt 64 (x.x.fdiv (2^1))&&&BitVec.ofInt 64 6148914691236517205).toNat:Int)+IntKind.u64.wrap (↑(BitVec.ofInt 64 x.x&&&BitVec.ofInt 64 6148914691236517205).toNat:Int))).fdiv (2^2))&&&BitVec.ofInt 64 3689348814741910323).toNat:Int)+IntKind.u64.wrap (↑(BitVec.ofInt 64 (IntKind.u64.wrap (IntKind.u64.wrap (↑(BitVec.ofInt 64 (x.x.fdiv (2^1))&&&BitVec.ofInt 64 6148914691236517205).toNat:Int)+IntKind.u64.wrap (↑(BitVec.ofInt 64 x.x&&&BitVec.ofInt 64 6148914691236517205).toNat:Int)))&&&BitVec.ofInt 64 3689348814741910323).toNat:Int))).fdiv (2^4)+IntKind.u64.wrap (IntKind.u64.wrap (↑(BitVec.ofInt 64 ((IntKind.u64.wrap (IntKind.u64.wrap (↑(BitVec.ofInt 64 (x.x.fdiv (2^1))&&&BitVec.ofInt 64 6148914691236517205).toNat:Int)+IntKind.u64.wrap (↑(BitVec.ofInt 64 x.x&&&BitVec.ofInt 64 6148914691236517205).toNat:Int))).fdiv (2^2))&&&BitVec.ofInt 64 3689348814741910323).toNat:Int)+IntKind.u64.wrap (↑(BitVec.ofInt 64 (IntKind.u64.wrap (IntKind.u64.wrap (↑(BitVec.ofInt 64 (x.x.fdiv (2^1))&&&BitVec.ofInt 64 6148914691236517205).toNat:Int)+IntKind.u64.wrap (↑(BitVec.ofInt 64 x.x&&&BitVec.ofInt 64 6148914691236517205).toNat:Int)))&&&BitVec.ofInt 64 3689348814741910323).toNat:Int))))&&&BitVec.ofInt 64 1085102592571150095).toNat:Int)+(IntKind.u64.wrap (↑(BitVec.ofInt 64 (IntKind.u64.wrap ((IntKind.u64.wrap (IntKind.u64.wrap (↑(BitVec.ofInt 64 ((IntKind.u64.wrap (IntKind.u64.wrap (↑(BitVec.ofInt 64 (x.x.fdiv (2^1))&&&BitVec.ofInt 64 6148914691236517205).toNat:Int)+IntKind.u64.wrap (↑(BitVec.ofInt 64 x.x&&&BitVec.ofInt 64 6148914691236517205).toNat:Int))).fdiv (2^2))&&&BitVec.ofInt 64 3689348814741910323).toNat:Int)+IntKind.u64.wrap (↑(BitVec.ofInt 64 (IntKind.u64.wrap (IntKind.u64.wrap (↑(BitVec.ofInt 64 (x.x.fdiv (2^1))&&&BitVec.ofInt 64 6148914691236517205).toNat:Int)+IntKind.u64.wrap (↑(BitVec.ofInt 64 x.x&&&BitVec.ofInt 64 6148914691236517205).toNat:Int)))&&&BitVec.ofInt 64 3689348814741910323).toNat:Int))).fdiv (2^4)+IntKind.u64.wrap (IntKind.u64.wrap (↑(BitVec.ofInt 64 ((IntKind.u64.wrap (IntKind.u64.wrap (↑(BitVec.ofInt 64 (x.x.fdiv (2^1))&&&BitVec.ofInt 64 6148914691236517205).toNat:Int)+IntKind.u64.wrap (↑(BitVec.ofInt 64 x.x&&&BitVec.ofInt 64 6148914691236517205).toNat:Int))).fdiv (2^2))&&&BitVec.ofInt 64 3689348814741910323).toNat:Int)+IntKind.u64.wrap (↑(BitVec.ofInt 64 (IntKind.u64.wrap (IntKind.u64.wrap (↑(BitVec.ofInt 64 (x.x.fdiv (2^1))&&&BitVec.ofInt 64 6148914691236517205).toNat:Int)+IntKind.u64.wrap (↑(BitVec.ofInt 64 x.x&&&BitVec.ofInt 64 6148914691236517205).toNat:Int)))&&&BitVec.ofInt 64 3689348814741910323).toNat:Int))))&&&BitVec.ofInt 64 1085102592571150095).toNat:Int)).fdiv (2^8))+(IntKind.u64.wrap (IntKind.u64.wrap (↑(BitVec.ofInt 64 (IntKind.u64.wrap ((IntKind.u64.wrap (IntKind.u64.wrap (↑(BitVec.ofInt 64 ((IntKind.u64.wrap (IntKind.u64.wrap (↑(BitVec.ofInt 64 (x.x.fdiv (2^1))&&&BitVec.ofInt 64 6148914691236517205).toNat:Int)+IntKind.u64.wrap (↑(BitVec.ofInt 64 x.x&&&BitVec.ofInt 64 6148914691236517205).toNat:Int))).fdiv (2^2))&&&BitVec.ofInt 64 3689348814741910323).toNat:Int)+IntKind.u64.wrap (↑(BitVec.ofInt 64 (IntKind.u64.wrap (IntKind.u64.wrap (↑(BitVec.ofInt 64 (x.x.fdiv (2^1))&&&BitVec.ofInt 64 6148914691236517205).toNat:Int)+IntKind.u64.wrap (↑(BitVec.ofInt 64 x.x&&&BitVec.ofInt 64 6148914691236517205).toNat:Int)))&&&BitVec.ofInt 64 3689348814741910323).toNat:Int))).fdiv (2^4)+IntKind.u64.wrap (IntKind.u64.wrap (↑(BitVec.ofInt 64 ((IntKind.u64.wrap (IntKind.u64.wrap (↑(BitVec.ofInt 64 (x.x.fdiv (2^1))&&&BitVec.ofInt 64 6148914691236517205).toNat:Int)+IntKind.u64.wrap (↑(BitVec.ofInt 64 x.x&&&BitVec.ofInt 64 6148914691236517205).toNat:Int))).fdiv (2^2))&&&BitVec.ofInt 64 3689348814741910323).toNat:Int)+IntKind.u64.wrap (↑(BitVec.ofInt 64 (IntKind.u64.wrap (IntKind.u64.wrap (↑(BitVec.ofInt 64 (x.x.fdiv (2^1))&&&BitVec.ofInt 64 6148914691236517205).toNat:Int)+IntKind.u64.wrap (↑(BitVec.ofInt 64 x.x&&&BitVec.ofInt 64 6148914691236517205).toNat:Int)))&&&BitVec.ofInt 64 3689348814741910323).toNat:Int))))&&&BitVec.ofInt 64 1085102592571150095).toNat:Int)+(IntKind.u64.wrap (↑(BitVec.ofInt 64 (IntKind.u64.wrap ((IntKind.u64.wrap (IntKind.u64.wrap (↑(BitVec.ofInt 64 ((IntKind.u64.wrap (IntKind.u64.wrap (↑(BitVec.ofInt 64 (x.x.fdiv (2^1))&&&BitVec.ofInt 64 6148914691236517205).toNat:Int)+IntKind.u64.wrap (↑(BitVec.ofInt 64 x.x&&&BitVec.ofInt 64 6148914691236517205).toNat:Int))).fdiv (2^2))&&&BitVec.ofInt 64 3689348814741910323).toNat:Int)+IntKind.u64.wrap (↑(BitVec.ofInt 64 (IntKind.u64.wrap (IntKind.u64.wrap (↑(BitVec.ofInt 64 (x.x.fdiv (2^1))&&&BitVec.ofInt 64 6148914691236517205).toNat:Int)+IntKind.u64.wrap (↑(BitVec.ofInt 64 x.x&&&BitVec.ofInt 64 6148914691236517205).toNat:Int)))&&&BitVec.ofInt 64 3689348814741910323).toNat:Int))).fdiv (2^4)+IntKind.u64.wrap (IntKind.u64.wrap (↑(BitVec.ofInt 64 ((IntKind.u64.wrap (IntKind.u64.wrap (↑(BitVec.ofInt 64 (x.x.fdiv (2^1))&&&BitVec.ofInt 64 6148914691236517205).toNat:Int)+IntKind.u64.wrap (↑(BitVec.ofInt 64 x.x&&&BitVec.ofInt 64 6148914691236517205).toNat:Int))).fdiv (2^2))&&&BitVec.ofInt 64 3689348814741910323).toNat:Int)+IntKind.u64.wrap (↑(BitVec.ofInt 64 (IntKind.u64.wrap (IntKind.u64.wrap (↑(BitVec.ofInt 64 (x.x.fdiv (2^1))&&&BitVec.ofInt 64 6148914691236517205).toNat:Int)+IntKind.u64.wrap (↑(BitVec.ofInt 64 x.x&&&BitVec.ofInt 64 6148914691236517205).toNat:Int)))&&&BitVec.ofInt 64 3689348814741910323).toNat:Int))))&&&BitVec.ofInt 64 1085102592571150095).toNat:Int)).fdiv (2^8))).fdiv (2^16))).fdiv (2^32))))&&&BitVec.ofInt 64 127).toNat:Int))
theorem QJ(x:gX):exec E0 35 C108 0 (QN 0 (g.A x)) (g.H x) (finish 0 ty [.tmp 2] f)=m x:=by kernel_rfl
theorem tl:QI C108 0=[]:=by kernel_rfl
theorem known:QM Try.prog 108 g f m:=
 Q9 mixed (Q8 QC Q5 _) s108 rfl rfl tl QB.nil (fun _ _=>⟨rfl,rfl⟩) (fun _ _=>⟨rfl,rfl⟩) QJ
def con:Con:=Qx g f m default
theorem Q1:QO Try.prog 108 con:=QE known (fun _=>rfl) rfl
end M108
namespace M84
structure gX where
 n:Int
 w:List (Int)
def g:Sg gX where
 vs:=[.agg [.it .i64,.arr (.int .u64)]]
 h:=[]
 to:=fun a b=>⟨a.1.1,a.1.2.1⟩
 fa:=fun x=>((x.n,(x.w,())),())
 fh:=fun x=>()
abbrev fY:=Int
def f:Ft fY where
 ord:=none
 sh:=.c (.it .i64)
 h:=[]
 to:=fun a b=>(a)
 fv:=fun y=>y
 fh:=fun y=>()
def cl:List (FuncId×Con):=[(108,M108.con)]
theorem Q5:QG Try.prog cl:=⟨M108.Q1,trivial⟩
def E1:Env:=⟨ty,QL cl,fun _=>none,none⟩
structure p0X where
 s:Int
 l:List (Int)
 k:Int
 i:Int
def p0:Pt p0X where
 own:=[]
 t:=⟨[(2,.c (.it .i64)),(6,.c (.arr (.int .u64))),(7,.c (.it .i64)),(8,.c (.it .i64))],[]⟩
 to:=fun v=>⟨v.1.1,v.1.2.1,v.1.2.2.1,v.1.2.2.2.1⟩
 fr:=fun x=>((x.s,(x.l,(x.k,(x.i,())))),())
structure q0X where
 s:Int
def q0:Pt q0X where
 own:=[]
 t:=⟨[(2,.c (.it .i64))],[]⟩
 to:=fun v=>⟨v.1.1⟩
 fr:=fun x=>((x.s,()),())
def s0(x:p0X):Option (p0X⊕q0X):=bif decide (x.i<x.k) then bif inR x.i x.l.length then Q0 (M108.m ⟨x.l[x.i.toNat]?.getD 0⟩) fun y=>some (Sum.inl ⟨IntKind.i64.wrap (x.s+y),x.l,x.k,IntKind.i64.wrap (x.i+1)⟩) else none else some (Sum.inr ⟨x.s⟩)
theorem QV(x:p0X):exec E1 18 (C84.Q2 0) 1 (p0.R x) (p0.H x) (Qq 0 p0 (.exit 0) q0)=s0 x:=by kernel_rfl
def l0:QS:=Qr 0 p0 (.exit 0) q0 s0
theorem tl0:QI (C84.Q2 0) 1=[]:=by kernel_rfl
theorem QW  :QF Try.prog 18 none 0 (C84.Q2 0) l0:=QQ mixed (Q8 QC Q5 _) (by trivial) (fun _=>rfl) (fun _=>rfl) (tl0▸QB.nil) QV
def E0:Env:=⟨ty,QL cl,JA [(0,l0)],none⟩
def m(x:gX):Option fY:=Q0 (iter s0 ⟨0,x.w,(↑x.w.length:Int),0⟩) fun y=>some y.s
theorem QJ(x:gX):exec E0 18 C84 0 (QN 0 (g.A x)) (g.H x) (finish 0 ty [.tmp 2] f)=m x:=by kernel_rfl
theorem tl:QI C84 0=[(0,C84.Q2 0)]:=by kernel_rfl
theorem known:QM Try.prog 84 g f m:=
 Q9 mixed (Q8 QC Q5 _) s84 rfl rfl tl (QB.cons rfl QW QB.nil) (fun _ _=>⟨rfl,rfl⟩) (fun _ _=>⟨rfl,rfl⟩) QJ
def con:Con:=Qx g f m default
theorem Q1:QO Try.prog 84 con:=QE known (fun _=>rfl) rfl
end M84
namespace M105
structure gX where
 x:Int
 y:Int
def g:Sg gX where
 vs:=[.c (.it .u64),.c (.it .u64)]
 h:=[]
 to:=fun a b=>⟨a.1,a.2.1⟩
 fa:=fun x=>(x.x,(x.y,()))
 fh:=fun x=>()
abbrev fY:=Int
def f:Ft fY where
 ord:=none
 sh:=.c (.it .u64)
 h:=[]
 to:=fun a b=>(a)
 fv:=fun y=>y
 fh:=fun y=>()
def cl:List (FuncId×Con):=[]
theorem Q5:QG Try.prog cl:=trivial
def E0:Env:=⟨ty,QL cl,fun _=>none,none⟩
def m(x:gX):Option fY:=some (IntKind.u64.wrap (↑(BitVec.ofInt 64 x.x^^^BitVec.ofInt 64 x.y).toNat:Int))
theorem QJ(x:gX):exec E0 8 C105 0 (QN 0 (g.A x)) (g.H x) (finish 0 ty [.tmp 4] f)=m x:=by kernel_rfl
theorem tl:QI C105 0=[]:=by kernel_rfl
theorem known:QM Try.prog 105 g f m:=
 Q9 mixed (Q8 QC Q5 _) s105 rfl rfl tl QB.nil (fun _ _=>⟨rfl,rfl⟩) (fun _ _=>⟨rfl,rfl⟩) QJ
def con:Con:=Qx g f m default
theorem Q1:QO Try.prog 105 con:=QE known (fun _=>rfl) rfl
end M105
namespace M106
structure gX where
 x:Int
 y:Int
def g:Sg gX where
 vs:=[.c (.it .u64),.c (.it .u64)]
 h:=[]
 to:=fun a b=>⟨a.1,a.2.1⟩
 fa:=fun x=>(x.x,(x.y,()))
 fh:=fun x=>()
abbrev fY:=Int
def f:Ft fY where
 ord:=none
 sh:=.c (.it .u64)
 h:=[]
 to:=fun a b=>(a)
 fv:=fun y=>y
 fh:=fun y=>()
def cl:List (FuncId×Con):=[]
theorem Q5:QG Try.prog cl:=trivial
def E0:Env:=⟨ty,QL cl,fun _=>none,none⟩
def m(x:gX):Option fY:=some (IntKind.u64.wrap (↑(BitVec.ofInt 64 x.x&&&BitVec.ofInt 64 x.y).toNat:Int))
theorem QJ(x:gX):exec E0 8 C106 0 (QN 0 (g.A x)) (g.H x) (finish 0 ty [.tmp 4] f)=m x:=by kernel_rfl
theorem tl:QI C106 0=[]:=by kernel_rfl
theorem known:QM Try.prog 106 g f m:=
 Q9 mixed (Q8 QC Q5 _) s106 rfl rfl tl QB.nil (fun _ _=>⟨rfl,rfl⟩) (fun _ _=>⟨rfl,rfl⟩) QJ
def con:Con:=Qx g f m default
theorem Q1:QO Try.prog 106 con:=QE known (fun _=>rfl) rfl
end M106
end Go.Proofs.Ytddaobhpffpmoaa
namespace Go.Proofs.Ytddaobhpffpmoaa
open Go.Abs
set_option maxRecDepth 100000
namespace M79
structure gX where
 an:Int
 aw:List (Int)
 bn:Int
 bw:List (Int)
def g:Sg gX where
 vs:=[.agg [.it .i64,.arr (.int .u64)],.agg [.it .i64,.arr (.int .u64)]]
 h:=[]
 to:=fun a b=>⟨a.1.1,a.1.2.1,a.2.1.1,a.2.1.2.1⟩
 fa:=fun x=>((x.an,(x.aw,())),((x.bn,(x.bw,())),()))
 fh:=fun x=>()
abbrev fY:=Int
def f:Ft fY where
 ord:=none
 sh:=.c (.it .i64)
 h:=[]
 to:=fun a b=>(a)
 fv:=fun y=>y
 fh:=fun y=>()
def cl:List (FuncId×Con):=[(38,M38.con)]
theorem Q5:QG Try.prog cl:=⟨M38.Q1,trivial⟩
def E1:Env:=⟨ty,QL cl,fun _=>none,none⟩
structure p0X where
 l:List ((Int)×List (Int))
 k:Int
 i:Int
 an:Int
 aw:List (Int)
 bn:Int
 bw:List (Int)
def p0:Pt p0X where
 own:=[]
 t:=⟨[(2,.c (.ptr 0 0)),(3,.c (.ptr 1 0)),(10,.c (.arr (.pair (.int .i64) (.sl (.int .u64))))),(11,.c (.it .i64)),(12,.c (.it .i64))],[.st [.it .i64,.arr (.int .u64)] 1 0,.st [.it .i64,.arr (.int .u64)] 1 0]⟩
 to:=fun v=>⟨v.1.2.2.1,v.1.2.2.2.1,v.1.2.2.2.2.1,v.2.1.1,v.2.1.2.1,v.2.2.1.1,v.2.2.1.2.1⟩
 fr:=fun x=>(((),((),(x.l,(x.k,(x.i,()))))),((x.an,(x.aw,())),((x.bn,(x.bw,())),())))
structure q0X where
 an:Int
 aw:List (Int)
 bn:Int
 bw:List (Int)
def q0:Pt q0X where
 own:=[]
 t:=⟨[(2,.c (.ptr 0 0)),(3,.c (.ptr 1 0))],[.st [.it .i64,.arr (.int .u64)] 1 0,.st [.it .i64,.arr (.int .u64)] 1 0]⟩
 to:=fun v=>⟨v.2.1.1,v.2.1.2.1,v.2.2.1.1,v.2.2.1.2.1⟩
 fr:=fun x=>(((),((),())),((x.an,(x.aw,())),((x.bn,(x.bw,())),())))
structure z0X where
 r:Int
def z0:Pt z0X where
 own:=[]
 t:=⟨[(4,.c (.it .i64))],[]⟩
 to:=fun v=>⟨v.1.1⟩
 fr:=fun x=>((x.r,()),())
def s0(x:p0X):Option (p0X⊕(q0X⊕z0X)):=bif decide (x.i<x.k) then bif inR x.i x.l.length then Q0 (M38.m ⟨(x.l[x.i.toNat]?.getD (0,[])).1,(x.l[x.i.toNat]?.getD (0,[])).2⟩) fun y=>bif y !=0 then some (Sum.inr (Sum.inr ⟨y⟩)) else some (Sum.inl ⟨x.l,x.k,IntKind.i64.wrap (x.i+1),x.an,x.aw,x.bn,x.bw⟩) else none else some (Sum.inr (Sum.inl ⟨x.an,x.aw,x.bn,x.bw⟩))
theorem QV(x:p0X):exec E1 27 (C79.Q2 0) 1 (p0.R x) (p0.H x) (J3 0 p0 (.exit 0) q0 .ret z0)=s0 x:=by kernel_rfl
def l0:QS:=J4 0 p0 (.exit 0) q0 .ret z0 s0
theorem tl0:QI (C79.Q2 0) 1=[]:=by kernel_rfl
theorem QW  :QF Try.prog 27 none 0 (C79.Q2 0) l0:=Qc mixed (Q8 QC Q5 _) (by trivial) (by trivial) (fun _=>rfl) (fun _=>rfl) (fun _=>rfl) (tl0▸QB.nil) QV
def E0:Env:=⟨ty,QL cl,JA [(0,l0)],none⟩
def m(x:gX):Option fY:=Q0 (iter s0 ⟨[(x.an,x.aw),(x.bn,x.bw)],(↑2:Int),0,x.an,x.aw,x.bn,x.bw⟩) fun s=>J6 s (fun y=>bif y.an !=y.bn then some 8 else some 0) fun z=>some z.r
theorem QJ(x:gX):exec E0 27 C79 0 (QN 0 (g.A x)) (g.H x) (finish 0 ty [.tmp 4] f)=m x:=by kernel_rfl
theorem tl:QI C79 0=[(0,C79.Q2 0)]:=by kernel_rfl
theorem known:QM Try.prog 79 g f m:=
 Q9 mixed (Q8 QC Q5 _) s79 rfl rfl tl (QB.cons rfl QW QB.nil) (fun _ _=>⟨rfl,rfl⟩) (fun _ _=>⟨rfl,rfl⟩) QJ
def con:Con:=Qx g f m default
theorem Q1:QO Try.prog 79 con:=QE known (fun _=>rfl) rfl
end M79
namespace M104x
structure gX where
 an:Int
 aw:List (Int)
 bn:Int
 bw:List (Int)
def g:Sg gX where
 vs:=[.agg [.it .i64,.arr (.int .u64)],.agg [.it .i64,.arr (.int .u64)],.c (.fn 105)]
 h:=[]
 to:=fun a b=>⟨a.1.1,a.1.2.1,a.2.1.1,a.2.1.2.1⟩
 fa:=fun x=>((x.an,(x.aw,())),((x.bn,(x.bw,())),((),())))
 fh:=fun x=>()
abbrev fY:=Int×List (Int)
def f:Ft fY where
 ord:=none
 sh:=.agg [.it .i64,.arr (.int .u64)]
 h:=[]
 to:=fun a b=>(a.1,a.2.1)
 fv:=fun y=>(y.1,(y.2,()))
 fh:=fun y=>()
def cl:List (FuncId×Con):=[(73,M73.con),(105,M105.con)]
theorem Q5:QG Try.prog cl:=⟨M73.Q1,M105.Q1,trivial⟩
def E1:Env:=⟨ty,QL cl,fun _=>none,none⟩
structure p0X where
 k:Int
 i:Int
 an:Int
 aw:List (Int)
 bn:Int
 bw:List (Int)
 ws:List (Int)
 on:Int
 ow_lo:Nat
 ow_len:Nat
 ow_cap:Nat
def p0:Pt p0X where
 own:=[]
 t:=⟨[(2,.c (.fn 105)),(3,.c (.ptr 0 0)),(4,.c (.ptr 1 0)),(6,.c (.ptr 2 0)),(7,.c (.ptr 4 0)),(14,.c (.it .i64)),(15,.c (.it .i64))],[.st [.it .i64,.arr (.int .u64)] 1 0,.st [.it .i64,.arr (.int .u64)] 1 0,.st [.junk,.junk] 1 0,.arr (.int .u64) 0,.st [.it .i64,.slc 3 0 1] 1 0]⟩
 to:=fun v=>⟨v.1.2.2.2.2.2.1,v.1.2.2.2.2.2.2.1,v.2.1.1,v.2.1.2.1,v.2.2.1.1,v.2.2.1.2.1,v.2.2.2.2.1,v.2.2.2.2.2.1.1,v.2.2.2.2.2.1.2.1.1,v.2.2.2.2.2.1.2.1.2.1,v.2.2.2.2.2.1.2.1.2.2⟩
 fr:=fun x=>(((),((),((),((),((),(x.k,(x.i,()))))))),((x.an,(x.aw,())),((x.bn,(x.bw,())),(((),((),())),(x.ws,((x.on,((x.ow_lo,x.ow_len,x.ow_cap),())),()))))))
structure q0X where
 an:Int
 aw:List (Int)
 bn:Int
 bw:List (Int)
 ws:List (Int)
 on:Int
 ow_lo:Nat
 ow_len:Nat
 ow_cap:Nat
def q0:Pt q0X where
 own:=[]
 t:=⟨[(6,.c (.ptr 2 0)),(7,.c (.ptr 4 0))],[.st [.it .i64,.arr (.int .u64)] 1 0,.st [.it .i64,.arr (.int .u64)] 1 0,.st [.junk,.junk] 1 0,.arr (.int .u64) 0,.st [.it .i64,.slc 3 0 1] 1 0]⟩
 to:=fun v=>⟨v.2.1.1,v.2.1.2.1,v.2.2.1.1,v.2.2.1.2.1,v.2.2.2.2.1,v.2.2.2.2.2.1.1,v.2.2.2.2.2.1.2.1.1,v.2.2.2.2.2.1.2.1.2.1,v.2.2.2.2.2.1.2.1.2.2⟩
 fr:=fun x=>(((),((),())),((x.an,(x.aw,())),((x.bn,(x.bw,())),(((),((),())),(x.ws,((x.on,((x.ow_lo,x.ow_len,x.ow_cap),())),()))))))
def s0(x:p0X):Option (p0X⊕q0X):=bif decide (x.i<x.k) then bif inR x.i x.aw.length then bif inR x.i x.bw.length then Q0 (M105.m ⟨x.aw[x.i.toNat]?.getD 0,x.bw[x.i.toNat]?.getD 0⟩) fun y=>bif inR x.i x.ow_len then bif decide (x.ow_lo+x.i.toNat<x.ws.length) then some (Sum.inl ⟨x.k,IntKind.i64.wrap (x.i+1),x.an,x.aw,x.bn,x.bw,x.ws.set (x.ow_lo+x.i.toNat) y,x.on,x.ow_lo,x.ow_len,x.ow_cap⟩) else none else none else none else none else some (Sum.inr ⟨x.an,x.aw,x.bn,x.bw,x.ws,x.on,x.ow_lo,x.ow_len,x.ow_cap⟩)
theorem QV(x:p0X):exec E1 36 (C104.Q2 0) 1 (p0.R x) (p0.H x) (Qq 0 p0 (.exit 0) q0)=s0 x:=by kernel_rfl
def l0:QS:=Qr 0 p0 (.exit 0) q0 s0
theorem tl0:QI (C104.Q2 0) 1=[]:=by kernel_rfl
theorem QW  :QF Try.prog 36 none 0 (C104.Q2 0) l0:=QQ mixed (Q8 QC Q5 _) (by trivial) (fun _=>rfl) (fun _=>rfl) (tl0▸QB.nil) QV
def E0:Env:=⟨ty,QL cl,JA [(0,l0)],none⟩
def m(x:gX):Option fY:=Q0 (M73.m ⟨x.an⟩) fun y=>Q0 (iter s0 ⟨(↑y.2.2.1:Int),0,x.an,x.aw,x.bn,x.bw,y.2.2.2.2,y.1,y.2.1,y.2.2.1,y.2.2.2.1⟩) fun y=>bif leB (y.ow_lo+y.ow_len) y.ws.length&&true&&true&&true then some (y.on,List.take y.ow_len (List.drop y.ow_lo y.ws)) else none
theorem QJ(x:gX):exec E0 36 C104 0 (QN 0 (g.A x)) (g.H x) (finish 0 ty [.cell 6 34] f)=m x:=by kernel_rfl
theorem tl:QI C104 0=[(0,C104.Q2 0)]:=by kernel_rfl
theorem known:QM Try.prog 104 g f m:=
 Q9 mixed (Q8 QC Q5 _) s104 rfl rfl tl (QB.cons rfl QW QB.nil) (fun _ _=>⟨rfl,rfl⟩) (fun _ _=>⟨rfl,rfl⟩) QJ
def con:Con:=Qx g f m default
theorem Q1:QO Try.prog 104 con:=QE known (fun _=>rfl) rfl
end M104x
namespace M104a
structure gX where
 an:Int
 aw:List (Int)
 bn:Int
 bw:List (Int)
def g:Sg gX where
 vs:=[.agg [.it .i64,.arr (.int .u64)],.agg [.it .i64,.arr (.int .u64)],.c (.fn 106)]
 h:=[]
 to:=fun a b=>⟨a.1.1,a.1.2.1,a.2.1.1,a.2.1.2.1⟩
 fa:=fun x=>((x.an,(x.aw,())),((x.bn,(x.bw,())),((),())))
 fh:=fun x=>()
abbrev fY:=Int×List (Int)
def f:Ft fY where
 ord:=none
 sh:=.agg [.it .i64,.arr (.int .u64)]
 h:=[]
 to:=fun a b=>(a.1,a.2.1)
 fv:=fun y=>(y.1,(y.2,()))
 fh:=fun y=>()
def cl:List (FuncId×Con):=[(73,M73.con),(106,M106.con)]
theorem Q5:QG Try.prog cl:=⟨M73.Q1,M106.Q1,trivial⟩
def E1:Env:=⟨ty,QL cl,fun _=>none,none⟩
structure p0X where
 k:Int
 i:Int
 an:Int
 aw:List (Int)
 bn:Int
 bw:List (Int)
 ws:List (Int)
 on:Int
 ow_lo:Nat
 ow_len:Nat
 ow_cap:Nat
def p0:Pt p0X where
 own:=[]
 t:=⟨[(2,.c (.fn 106)),(3,.c (.ptr 0 0)),(4,.c (.ptr 1 0)),(6,.c (.ptr 2 0)),(7,.c (.ptr 4 0)),(14,.c (.it .i64)),(15,.c (.it .i64))],[.st [.it .i64,.arr (.int .u64)] 1 0,.st [.it .i64,.arr (.int .u64)] 1 0,.st [.junk,.junk] 1 0,.arr (.int .u64) 0,.st [.it .i64,.slc 3 0 1] 1 0]⟩
 to:=fun v=>⟨v.1.2.2.2.2.2.1,v.1.2.2.2.2.2.2.1,v.2.1.1,v.2.1.2.1,v.2.2.1.1,v.2.2.1.2.1,v.2.2.2.2.1,v.2.2.2.2.2.1.1,v.2.2.2.2.2.1.2.1.1,v.2.2.2.2.2.1.2.1.2.1,v.2.2.2.2.2.1.2.1.2.2⟩
 fr:=fun x=>(((),((),((),((),((),(x.k,(x.i,()))))))),((x.an,(x.aw,())),((x.bn,(x.bw,())),(((),((),())),(x.ws,((x.on,((x.ow_lo,x.ow_len,x.ow_cap),())),()))))))
structure q0X where
 an:Int
 aw:List (Int)
 bn:Int
 bw:List (Int)
 ws:List (Int)
 on:Int
 ow_lo:Nat
 ow_len:Nat
 ow_cap:Nat
def q0:Pt q0X where
 own:=[]
 t:=⟨[(6,.c (.ptr 2 0)),(7,.c (.ptr 4 0))],[.st [.it .i64,.arr (.int .u64)] 1 0,.st [.it .i64,.arr (.int .u64)] 1 0,.st [.junk,.junk] 1 0,.arr (.int .u64) 0,.st [.it .i64,.slc 3 0 1] 1 0]⟩
 to:=fun v=>⟨v.2.1.1,v.2.1.2.1,v.2.2.1.1,v.2.2.1.2.1,v.2.2.2.2.1,v.2.2.2.2.2.1.1,v.2.2.2.2.2.1.2.1.1,v.2.2.2.2.2.1.2.1.2.1,v.2.2.2.2.2.1.2.1.2.2⟩
 fr:=fun x=>(((),((),())),((x.an,(x.aw,())),((x.bn,(x.bw,())),(((),((),())),(x.ws,((x.on,((x.ow_lo,x.ow_len,x.ow_cap),())),()))))))
def s0(x:p0X):Option (p0X⊕q0X):=bif decide (x.i<x.k) then bif inR x.i x.aw.length then bif inR x.i x.bw.length then Q0 (M106.m ⟨x.aw[x.i.toNat]?.getD 0,x.bw[x.i.toNat]?.getD 0⟩) fun y=>bif inR x.i x.ow_len then bif decide (x.ow_lo+x.i.toNat<x.ws.length) then some (Sum.inl ⟨x.k,IntKind.i64.wrap (x.i+1),x.an,x.aw,x.bn,x.bw,x.ws.set (x.ow_lo+x.i.toNat) y,x.on,x.ow_lo,x.ow_len,x.ow_cap⟩) else none else none else none else none else some (Sum.inr ⟨x.an,x.aw,x.bn,x.bw,x.ws,x.on,x.ow_lo,x.ow_len,x.ow_cap⟩)
theorem QV(x:p0X):exec E1 36 (C104.Q2 0) 1 (p0.R x) (p0.H x) (Qq 0 p0 (.exit 0) q0)=s0 x:=by kernel_rfl
def l0:QS:=Qr 0 p0 (.exit 0) q0 s0
theorem tl0:QI (C104.Q2 0) 1=[]:=by kernel_rfl
theorem QW  :QF Try.prog 36 none 0 (C104.Q2 0) l0:=QQ mixed (Q8 QC Q5 _) (by trivial) (fun _=>rfl) (fun _=>rfl) (tl0▸QB.nil) QV
def E0:Env:=⟨ty,QL cl,JA [(0,l0)],none⟩
def m(x:gX):Option fY:=Q0 (M73.m ⟨x.an⟩) fun y=>Q0 (iter s0 ⟨(↑y.2.2.1:Int),0,x.an,x.aw,x.bn,x.bw,y.2.2.2.2,y.1,y.2.1,y.2.2.1,y.2.2.2.1⟩) fun y=>bif leB (y.ow_lo+y.ow_len) y.ws.length&&true&&true&&true then some (y.on,List.take y.ow_len (List.drop y.ow_lo y.ws)) else none
theorem QJ(x:gX):exec E0 36 C104 0 (QN 0 (g.A x)) (g.H x) (finish 0 ty [.cell 6 34] f)=m x:=by kernel_rfl
theorem tl:QI C104 0=[(0,C104.Q2 0)]:=by kernel_rfl
theorem known:QM Try.prog 104 g f m:=
 Q9 mixed (Q8 QC Q5 _) s104 rfl rfl tl (QB.cons rfl QW QB.nil) (fun _ _=>⟨rfl,rfl⟩) (fun _ _=>⟨rfl,rfl⟩) QJ
def con:Con:=Qx g f m default
theorem Q1:QO Try.prog 104 con:=QE known (fun _=>rfl) rfl
end M104a
namespace M80
structure gX where
 an:Int
 aw:List (Int)
 bn:Int
 bw:List (Int)
def g:Sg gX where
 vs:=[.agg [.it .i64,.arr (.int .u64)],.agg [.it .i64,.arr (.int .u64)]]
 h:=[]
 to:=fun a b=>⟨a.1.1,a.1.2.1,a.2.1.1,a.2.1.2.1⟩
 fa:=fun x=>((x.an,(x.aw,())),((x.bn,(x.bw,())),()))
 fh:=fun x=>()
abbrev fY:=Int×List (Int)
def f:Ft fY where
 ord:=none
 sh:=.agg [.it .i64,.arr (.int .u64)]
 h:=[]
 to:=fun a b=>(a.1,a.2.1)
 fv:=fun y=>(y.1,(y.2,()))
 fh:=fun y=>()
def cl:List (FuncId×Con):=[(104,M104x.con)]
theorem Q5:QG Try.prog cl:=⟨M104x.Q1,trivial⟩
def E0:Env:=⟨ty,QL cl,fun _=>none,none⟩
def m(x:gX):Option fY:=Q0 (M104x.m ⟨x.an,x.aw,x.bn,x.bw⟩) fun y=>some (y.1,y.2)
theorem QJ(x:gX):exec E0 8 C80 0 (QN 0 (g.A x)) (g.H x) (finish 0 ty [.cell 4 34] f)=m x:=by kernel_rfl
theorem tl:QI C80 0=[]:=by kernel_rfl
theorem known:QM Try.prog 80 g f m:=
 Q9 mixed (Q8 QC Q5 _) s80 rfl rfl tl QB.nil (fun _ _=>⟨rfl,rfl⟩) (fun _ _=>⟨rfl,rfl⟩) QJ
def con:Con:=Qx g f m default
theorem Q1:QO Try.prog 80 con:=QE known (fun _=>rfl) rfl
end M80
namespace M81
structure gX where
 an:Int
 aw:List (Int)
 bn:Int
 bw:List (Int)
def g:Sg gX where
 vs:=[.agg [.it .i64,.arr (.int .u64)],.agg [.it .i64,.arr (.int .u64)]]
 h:=[]
 to:=fun a b=>⟨a.1.1,a.1.2.1,a.2.1.1,a.2.1.2.1⟩
 fa:=fun x=>((x.an,(x.aw,())),((x.bn,(x.bw,())),()))
 fh:=fun x=>()
abbrev fY:=Bool
def f:Ft fY where
 ord:=none
 sh:=.c (.bo)
 h:=[]
 to:=fun a b=>(a)
 fv:=fun y=>y
 fh:=fun y=>()
def cl:List (FuncId×Con):=[(104,M104a.con),(84,M84.con)]
theorem Q5:QG Try.prog cl:=⟨M104a.Q1,M84.Q1,trivial⟩
def E0:Env:=⟨ty,QL cl,fun _=>none,none⟩
def m(x:gX):Option fY:=Q0 (M104a.m ⟨x.an,x.aw,x.bn,x.bw⟩) fun y=>Q0 (M84.m ⟨y.1,y.2⟩) fun y=>some (Int.tmod y 2==1)
theorem QJ(x:gX):exec E0 11 C81 0 (QN 0 (g.A x)) (g.H x) (finish 0 ty [.tmp 4] f)=m x:=by kernel_rfl
theorem tl:QI C81 0=[]:=by kernel_rfl
theorem known:QM Try.prog 81 g f m:=
 Q9 mixed (Q8 QC Q5 _) s81 rfl rfl tl QB.nil (fun _ _=>⟨rfl,rfl⟩) (fun _ _=>⟨rfl,rfl⟩) QJ
def con:Con:=Qx g f m default
theorem Q1:QO Try.prog 81 con:=QE known (fun _=>rfl) rfl
end M81
namespace M28
structure gX where
 an:Int
 aw:List (Int)
 bn:Int
 bw:List (Int)
def g:Sg gX where
 vs:=[.agg [.it .i64,.arr (.int .u64)],.agg [.it .i64,.arr (.int .u64)]]
 h:=[]
 to:=fun a b=>⟨a.1.1,a.1.2.1,a.2.1.1,a.2.1.2.1⟩
 fa:=fun x=>((x.an,(x.aw,())),((x.bn,(x.bw,())),()))
 fh:=fun x=>()
abbrev fY:=Int×List (Int)×Int
def f:Ft fY where
 ord:=none
 sh:=.tup [.inr [.it .i64,.arr (.int .u64)],.inl (.it .i64)]
 h:=[]
 to:=fun a b=>(a.1.1,a.1.2.1,a.2.1)
 fv:=fun y=>((y.1,(y.2.1,())),(y.2.2,()))
 fh:=fun y=>()
def cl:List (FuncId×Con):=[(79,M79.con),(80,M80.con)]
theorem Q5:QG Try.prog cl:=⟨M79.Q1,M80.Q1,trivial⟩
def E0:Env:=⟨ty,QL cl,fun _=>none,none⟩
def m(x:gX):Option fY:=Q0 (M79.m ⟨x.an,x.aw,x.bn,x.bw⟩) fun y=>bif y !=0 then some (0,[],y) else Q0 (M80.m ⟨x.an,x.aw,x.bn,x.bw⟩) fun y=>some (y.1,y.2,0)
theorem QJ(x:gX):exec E0 17 C28 0 (QN 0 (g.A x)) (g.H x) (finish 0 ty [.cell 4 34,.tmp 5] f)=m x:=by kernel_rfl
theorem tl:QI C28 0=[]:=by kernel_rfl
theorem known:QM Try.prog 28 g f m:=
 Q9 mixed (Q8 QC Q5 _) s28 rfl rfl tl QB.nil (fun _ _=>⟨rfl,rfl⟩) (fun _ _=>⟨rfl,rfl⟩) QJ
def con:Con:=Qx g f m default
theorem Q1:QO Try.prog 28 con:=QE known (fun _=>rfl) rfl
end M28
namespace M33
structure gX where
 an:Int
 aw:List (Int)
 bn:Int
 bw:List (Int)
def g:Sg gX where
 vs:=[.agg [.it .i64,.arr (.int .u64)],.agg [.it .i64,.arr (.int .u64)]]
 h:=[]
 to:=fun a b=>⟨a.1.1,a.1.2.1,a.2.1.1,a.2.1.2.1⟩
 fa:=fun x=>((x.an,(x.aw,())),((x.bn,(x.bw,())),()))
 fh:=fun x=>()
abbrev fY:=Int×Int
def f:Ft fY where
 ord:=none
 sh:=.tup [.inl (.it .u8),.inl (.it .i64)]
 h:=[]
 to:=fun a b=>(a.1,a.2.1)
 fv:=fun y=>(y.1,(y.2,()))
 fh:=fun y=>()
def cl:List (FuncId×Con):=[(79,M79.con),(81,M81.con)]
theorem Q5:QG Try.prog cl:=⟨M79.Q1,M81.Q1,trivial⟩
def E0:Env:=⟨ty,QL cl,fun _=>none,none⟩
def m(x:gX):Option fY:=Q0 (M79.m ⟨x.an,x.aw,x.bn,x.bw⟩) fun y=>bif y !=0 then some (0,y) else Q0 (M81.m ⟨x.an,x.aw,x.bn,x.bw⟩) fun y=>bif y then some (1,0) else some (0,0)
theorem QJ(x:gX):exec E0 16 C33 0 (QN 0 (g.A x)) (g.H x) (finish 0 ty [.tmp 4,.tmp 5] f)=m x:=by kernel_rfl
theorem tl:QI C33 0=[]:=by kernel_rfl
theorem known:QM Try.prog 33 g f m:=
 Q9 mixed (Q8 QC Q5 _) s33 rfl rfl tl QB.nil (fun _ _=>⟨rfl,rfl⟩) (fun _ _=>⟨rfl,rfl⟩) QJ
def con:Con:=Qx g f m default
theorem Q1:QO Try.prog 33 con:=QE known (fun _=>rfl) rfl
end M33
end Go.Proofs.Ytddaobhpffpmoaa
namespace Go.Proofs.Ytddaobhpffpmoaa
open Go.Abs
set_option maxRecDepth 100000
namespace M101
structure gX where
 i:Int
 k:Int
 rows_lo:Nat
 rows_len:Nat
 rows_cap:Nat
 more_lo:Nat
 more_len:Nat
 more_cap:Nat
 piv_lo:Nat
 piv_len:Nat
 rs:List ((Int)×List (Int))
 ms:List ((Int)×List (Int))
 ps:List (Int)
def g:Sg gX where
 vs:=[.c (.ptr 0 0),.c (.it .i64),.c (.it .i64)]
 h:=[.st [.slc 1 0 2,.slc 2 0 2,.sl 3 0 1] 1 0,.arr (.pair (.int .i64) (.sl (.int .u64))) 0,.arr (.pair (.int .i64) (.sl (.int .u64))) 0,.arr (.int .i64) 0]
 to:=fun a b=>⟨a.2.1,a.2.2.1,b.1.1.1,b.1.1.2.1,b.1.1.2.2,b.1.2.1.1,b.1.2.1.2.1,b.1.2.1.2.2,b.1.2.2.1.1,b.1.2.2.1.2,b.2.1,b.2.2.1,b.2.2.2.1⟩
 fa:=fun x=>((),(x.i,(x.k,())))
 fh:=fun x=>(((x.rows_lo,x.rows_len,x.rows_cap),((x.more_lo,x.more_len,x.more_cap),((x.piv_lo,x.piv_len),()))),(x.rs,(x.ms,(x.ps,()))))
abbrev fY:=Nat×Nat×Nat×Nat×Nat×Nat×Nat×Nat×(List ((Int)×List (Int)))×(List ((Int)×List (Int)))×List (Int)
def f:Ft fY where
 ord:=none
 sh:=.tup []
 h:=[.st [.slc 1 0 2,.slc 2 0 2,.sl 3 0 1] 1 0,.arr (.pair (.int .i64) (.sl (.int .u64))) 0,.arr (.pair (.int .i64) (.sl (.int .u64))) 0,.arr (.int .i64) 0]
 to:=fun a b=>(b.1.1.1,b.1.1.2.1,b.1.1.2.2,b.1.2.1.1,b.1.2.1.2.1,b.1.2.1.2.2,b.1.2.2.1.1,b.1.2.2.1.2,b.2.1,b.2.2.1,b.2.2.2.1)
 fv:=fun y=>()
 fh:=fun y=>(((y.1,y.2.1,y.2.2.1),((y.2.2.2.1,y.2.2.2.2.1,y.2.2.2.2.2.1),((y.2.2.2.2.2.2.1,y.2.2.2.2.2.2.2.1),()))),(y.2.2.2.2.2.2.2.2.1,(y.2.2.2.2.2.2.2.2.2.1,(y.2.2.2.2.2.2.2.2.2.2,()))))
def cl:List (FuncId×Con):=[]
theorem Q5:QG Try.prog cl:=trivial
def E0:Env:=⟨ty,QL cl,fun _=>none,none⟩
def m(x:gX):Option fY:=bif inR x.k x.rows_len then bif decide (x.rows_lo+x.k.toNat<x.rs.length) then bif inR x.i x.rows_len then bif decide (x.rows_lo+x.i.toNat<x.rs.length) then bif inR x.i x.rows_len then bif decide (x.rows_lo+x.i.toNat<x.rs.length) then bif inR x.k x.rows_len then bif decide (x.rows_lo+x.k.toNat<(x.rs.set (x.rows_lo+x.i.toNat) ((x.rs[x.rows_lo+x.k.toNat]?.getD (0,[])).1,(x.rs[x.rows_lo+x.k.toNat]?.getD (0,[])).2)).length) then bif decide ((↑x.more_len:Int)>0) then bif inR x.k x.more_len then bif decide (x.more_lo+x.k.toNat<x.ms.length) then bif inR x.i x.more_len then bif decide (x.more_lo+x.i.toNat<x.ms.length) then bif inR x.i x.more_len then bif decide (x.more_lo+x.i.toNat<x.ms.length) then bif inR x.k x.more_len then bif decide (x.more_lo+x.k.toNat<(x.ms.set (x.more_lo+x.i.toNat) ((x.ms[x.more_lo+x.k.toNat]?.getD (0,[])).1,(x.ms[x.more_lo+x.k.toNat]?.getD (0,[])).2)).length) then some (x.rows_lo,x.rows_len,x.rows_cap,x.more_lo,x.more_len,x.more_cap,x.piv_lo,x.piv_len,(x.rs.set (x.rows_lo+x.i.toNat) ((x.rs[x.rows_lo+x.k.toNat]?.getD (0,[])).1,(x.rs[x.rows_lo+x.k.toNat]?.getD (0,[])).2)).set (x.rows_lo+x.k.toNat) ((x.rs[x.rows_lo+x.i.toNat]?.getD (0,[])).1,(x.rs[x.rows_lo+x.i.toNat]?.getD (0,[])).2),(x.ms.set (x.more_lo+x.i.toNat) ((x.ms[x.more_lo+x.k.toNat]?.getD (0,[])).1,(x.ms[x.more_lo+x.k.toNat]?.getD (0,[])).2)).set (x.more_lo+x.k.toNat) ((x.ms[x.more_lo+x.i.toNat]?.getD (0,[])).1,(x.ms[x.more_lo+x.i.toNat]?.getD (0,[])).2),x.ps) else none else none else none else none else none else none else none else none else some (x.rows_lo,x.rows_len,x.rows_cap,x.more_lo,x.more_len,x.more_cap,x.piv_lo,x.piv_len,(x.rs.set (x.rows_lo+x.i.toNat) ((x.rs[x.rows_lo+x.k.toNat]?.getD (0,[])).1,(x.rs[x.rows_lo+x.k.toNat]?.getD (0,[])).2)).set (x.rows_lo+x.k.toNat) ((x.rs[x.rows_lo+x.i.toNat]?.getD (0,[])).1,(x.rs[x.rows_lo+x.i.toNat]?.getD (0,[])).2),x.ms,x.ps) else none else none else none else none else none else none else none else none
theorem QJ(x:gX):exec E0 64 C101 0 (QN 0 (g.A x)) (g.H x) (finish 4 ty [] f)=m x:=by kernel_rfl
theorem tl:QI C101 0=[]:=by kernel_rfl
theorem known:QM Try.prog 101 g f m:=
 Q9 mixed (Q8 QC Q5 _) s101 rfl rfl tl QB.nil (fun _ _=>⟨rfl,rfl⟩) (fun _ _=>⟨rfl,rfl⟩) QJ
def con:Con:=j4 g [.arg 0 0,.cell 0 0,.cell 0 1,.cell 0 2] f m default
theorem Q1:QO Try.prog 101 con:=ZZ known
end M101
namespace M102
structure gX where
 top:Int
 k:Int
 rows_lo:Nat
 rows_len:Nat
 rows_cap:Nat
 more_lo:Nat
 more_len:Nat
 more_cap:Nat
 piv_lo:Nat
 piv_len:Nat
 rs:List ((Int)×List (Int))
 ms:List ((Int)×List (Int))
 ps:List (Int)
def g:Sg gX where
 vs:=[.c (.ptr 0 0),.c (.it .i64),.c (.it .i64)]
 h:=[.st [.slc 1 0 2,.slc 2 0 2,.sl 3 0 1] 1 0,.arr (.pair (.int .i64) (.sl (.int .u64))) 0,.arr (.pair (.int .i64) (.sl (.int .u64))) 0,.arr (.int .i64) 0]
 to:=fun a b=>⟨a.2.1,a.2.2.1,b.1.1.1,b.1.1.2.1,b.1.1.2.2,b.1.2.1.1,b.1.2.1.2.1,b.1.2.1.2.2,b.1.2.2.1.1,b.1.2.2.1.2,b.2.1,b.2.2.1,b.2.2.2.1⟩
 fa:=fun x=>((),(x.top,(x.k,())))
 fh:=fun x=>(((x.rows_lo,x.rows_len,x.rows_cap),((x.more_lo,x.more_len,x.more_cap),((x.piv_lo,x.piv_len),()))),(x.rs,(x.ms,(x.ps,()))))
abbrev fY:=Nat×Nat×Nat×Nat×Nat×Nat×Nat×Nat×(List ((Int)×List (Int)))×(List ((Int)×List (Int)))×List (Int)
def f:Ft fY where
 ord:=none
 sh:=.tup []
 h:=[.st [.slc 1 0 2,.slc 2 0 2,.sl 3 0 1] 1 0,.arr (.pair (.int .i64) (.sl (.int .u64))) 0,.arr (.pair (.int .i64) (.sl (.int .u64))) 0,.arr (.int .i64) 0]
 to:=fun a b=>(b.1.1.1,b.1.1.2.1,b.1.1.2.2,b.1.2.1.1,b.1.2.1.2.1,b.1.2.1.2.2,b.1.2.2.1.1,b.1.2.2.1.2,b.2.1,b.2.2.1,b.2.2.2.1)
 fv:=fun y=>()
 fh:=fun y=>(((y.1,y.2.1,y.2.2.1),((y.2.2.2.1,y.2.2.2.2.1,y.2.2.2.2.2.1),((y.2.2.2.2.2.2.1,y.2.2.2.2.2.2.2.1),()))),(y.2.2.2.2.2.2.2.2.1,(y.2.2.2.2.2.2.2.2.2.1,(y.2.2.2.2.2.2.2.2.2.2,()))))
def cl:List (FuncId×Con):=[(74,M74.con),(80,M80.con)]
theorem Q5:QG Try.prog cl:=⟨M74.Q1,M80.Q1,trivial⟩
def E1:Env:=⟨ty,QL cl,fun _=>none,none⟩
structure p0X where
 top:Int
 k:Int
 n:Int
 i:Int
 rows_lo:Nat
 rows_len:Nat
 rows_cap:Nat
 more_lo:Nat
 more_len:Nat
 more_cap:Nat
 piv_lo:Nat
 piv_len:Nat
 rs:List ((Int)×List (Int))
 ms:List ((Int)×List (Int))
 ps:List (Int)
def p0:Pt p0X where
 own:=[]
 t:=⟨[(0,.c (.ptr 0 0)),(1,.c (.it .i64)),(2,.c (.it .i64)),(11,.c (.it .i64)),(12,.c (.it .i64))],[.st [.slc 1 0 2,.slc 2 0 2,.sl 3 0 1] 1 0,.arr (.pair (.int .i64) (.sl (.int .u64))) 0,.arr (.pair (.int .i64) (.sl (.int .u64))) 0,.arr (.int .i64) 0]⟩
 to:=fun v=>⟨v.1.2.1,v.1.2.2.1,v.1.2.2.2.1,v.1.2.2.2.2.1,v.2.1.1.1,v.2.1.1.2.1,v.2.1.1.2.2,v.2.1.2.1.1,v.2.1.2.1.2.1,v.2.1.2.1.2.2,v.2.1.2.2.1.1,v.2.1.2.2.1.2,v.2.2.1,v.2.2.2.1,v.2.2.2.2.1⟩
 fr:=fun x=>(((),(x.top,(x.k,(x.n,(x.i,()))))),(((x.rows_lo,x.rows_len,x.rows_cap),((x.more_lo,x.more_len,x.more_cap),((x.piv_lo,x.piv_len),()))),(x.rs,(x.ms,(x.ps,())))))
structure q0X where
 rows_lo:Nat
 rows_len:Nat
 rows_cap:Nat
 more_lo:Nat
 more_len:Nat
 more_cap:Nat
 piv_lo:Nat
 piv_len:Nat
 rs:List ((Int)×List (Int))
 ms:List ((Int)×List (Int))
 ps:List (Int)
def q0:Pt q0X where
 own:=[]
 t:=⟨[],[.st [.slc 1 0 2,.slc 2 0 2,.sl 3 0 1] 1 0,.arr (.pair (.int .i64) (.sl (.int .u64))) 0,.arr (.pair (.int .i64) (.sl (.int .u64))) 0,.arr (.int .i64) 0]⟩
 to:=fun v=>⟨v.2.1.1.1,v.2.1.1.2.1,v.2.1.1.2.2,v.2.1.2.1.1,v.2.1.2.1.2.1,v.2.1.2.1.2.2,v.2.1.2.2.1.1,v.2.1.2.2.1.2,v.2.2.1,v.2.2.2.1,v.2.2.2.2.1⟩
 fr:=fun x=>((),(((x.rows_lo,x.rows_len,x.rows_cap),((x.more_lo,x.more_len,x.more_cap),((x.piv_lo,x.piv_len),()))),(x.rs,(x.ms,(x.ps,())))))
def s0(x:p0X):Option (p0X⊕q0X):=bif decide (x.i<x.n) then bif inR x.i x.rows_len||!!x.i==x.top then bif decide (x.rows_lo+x.i.toNat<x.rs.length)||!!x.i==x.top then Q0 (bif !x.i==x.top then M74.m ⟨(x.rs[x.rows_lo+x.i.toNat]?.getD (0,[])).1,(x.rs[x.rows_lo+x.i.toNat]?.getD (0,[])).2,x.k⟩ else some false) fun y=>bif bif x.i==x.top then true else !y then some (Sum.inl ⟨x.top,x.k,x.n,IntKind.i64.wrap (x.i+1),x.rows_lo,x.rows_len,x.rows_cap,x.more_lo,x.more_len,x.more_cap,x.piv_lo,x.piv_len,x.rs,x.ms,x.ps⟩) else bif inR x.i x.rows_len then bif decide (x.rows_lo+x.i.toNat<x.rs.length) then bif inR x.top x.rows_len then bif decide (x.rows_lo+x.top.toNat<x.rs.length) then Q0 (M80.m ⟨(x.rs[x.rows_lo+x.i.toNat]?.getD (0,[])).1,(x.rs[x.rows_lo+x.i.toNat]?.getD (0,[])).2,(x.rs[x.rows_lo+x.top.toNat]?.getD (0,[])).1,(x.rs[x.rows_lo+x.top.toNat]?.getD (0,[])).2⟩) fun y=>bif inR x.i x.rows_len then bif decide (x.rows_lo+x.i.toNat<x.rs.length) then bif decide ((↑x.more_len:Int)>0) then bif inR x.i x.more_len then bif decide (x.more_lo+x.i.toNat<x.ms.length) then bif inR x.top x.more_len then bif decide (x.more_lo+x.top.toNat<x.ms.length) then Q0 (M80.m ⟨(x.ms[x.more_lo+x.i.toNat]?.getD (0,[])).1,(x.ms[x.more_lo+x.i.toNat]?.getD (0,[])).2,(x.ms[x.more_lo+x.top.toNat]?.getD (0,[])).1,(x.ms[x.more_lo+x.top.toNat]?.getD (0,[])).2⟩) fun y_1=>bif inR x.i x.more_len then bif decide (x.more_lo+x.i.toNat<x.ms.length) then some (Sum.inl ⟨x.top,x.k,x.n,IntKind.i64.wrap (x.i+1),x.rows_lo,x.rows_len,x.rows_cap,x.more_lo,x.more_len,x.more_cap,x.piv_lo,x.piv_len,x.rs.set (x.rows_lo+x.i.toNat) (y.1,y.2),x.ms.set (x.more_lo+x.i.toNat) (y_1.1,y_1.2),x.ps⟩) else none else none else none else none else none else none else some (Sum.inl ⟨x.top,x.k,x.n,IntKind.i64.wrap (x.i+1),x.rows_lo,x.rows_len,x.rows_cap,x.more_lo,x.more_len,x.more_cap,x.piv_lo,x.piv_len,x.rs.set (x.rows_lo+x.i.toNat) (y.1,y.2),x.ms,x.ps⟩) else none else none else none else none else none else none else none else none else some (Sum.inr ⟨x.rows_lo,x.rows_len,x.rows_cap,x.more_lo,x.more_len,x.more_cap,x.piv_lo,x.piv_len,x.rs,x.ms,x.ps⟩)
theorem QV(x:p0X):exec E1 79 (C102.Q2 0) 1 (p0.R x) (p0.H x) (Qq 4 p0 (.exit 0) q0)=s0 x:=by kernel_rfl
def l0:QS:=Qr 4 p0 (.exit 0) q0 s0
theorem tl0:QI (C102.Q2 0) 1=[]:=by kernel_rfl
theorem QW  :QF Try.prog 79 none 4 (C102.Q2 0) l0:=QQ mixed (Q8 QC Q5 _) (by trivial) (fun _=>rfl) (fun _=>rfl) (tl0▸QB.nil) QV
def E0:Env:=⟨ty,QL cl,JA [(0,l0)],none⟩
def m(x:gX):Option fY:=Q0 (iter s0 ⟨x.top,x.k,(↑x.rows_len:Int),0,x.rows_lo,x.rows_len,x.rows_cap,x.more_lo,x.more_len,x.more_cap,x.piv_lo,x.piv_len,x.rs,x.ms,x.ps⟩) fun y=>some (y.rows_lo,y.rows_len,y.rows_cap,y.more_lo,y.more_len,y.more_cap,y.piv_lo,y.piv_len,y.rs,y.ms,y.ps)
theorem QJ(x:gX):exec E0 79 C102 0 (QN 0 (g.A x)) (g.H x) (finish 4 ty [] f)=m x:=by kernel_rfl
theorem tl:QI C102 0=[(0,C102.Q2 0)]:=by kernel_rfl
theorem known:QM Try.prog 102 g f m:=
 Q9 mixed (Q8 QC Q5 _) s102 rfl rfl tl (QB.cons rfl QW QB.nil) (fun _ _=>⟨rfl,rfl⟩) (fun _ _=>⟨rfl,rfl⟩) QJ
def con:Con:=j4 g [.arg 0 0,.cell 0 0,.cell 0 1,.cell 0 2] f m default
theorem Q1:QO Try.prog 102 con:=ZZ known
end M102
end Go.Proofs.Ytddaobhpffpmoaa
namespace Go.Proofs.Ytddaobhpffpmoaa
open Go.Abs
set_option maxRecDepth 100000
namespace M76
structure gX where
 c:Int
 rows:List ((Int)×List (Int))
 more:List ((Int)×List (Int))
def g:Sg gX where
 vs:=[.agg [.it .i64,.arr (.pair (.int .i64) (.sl (.int .u64)))],.c (.arr (.pair (.int .i64) (.sl (.int .u64))))]
 h:=[]
 to:=fun a b=>⟨a.1.1,a.1.2.1,a.2.1⟩
 fa:=fun x=>((x.c,(x.rows,())),(x.more,()))
 fh:=fun x=>()
abbrev fY:=(List ((Int)×List (Int)))×(List ((Int)×List (Int)))×Nat×Nat×Nat×Nat×Nat×Nat×Nat×Nat×List (Int)
def f:Ft fY where
 ord:=some [1,2,3,4,0]
 sh:=.c (.ptr 2 0)
 h:=[.arr (.pair (.int .i64) (.sl (.int .u64))) 0,.arr (.pair (.int .i64) (.sl (.int .u64))) 0,.st [.slc 0 0 2,.slc 1 0 2,.sl 3 0 1] 1 0,.arr (.int .i64) 0]
 to:=fun a b=>(b.1,b.2.1,b.2.2.1.1.1,b.2.2.1.1.2.1,b.2.2.1.1.2.2,b.2.2.1.2.1.1,b.2.2.1.2.1.2.1,b.2.2.1.2.1.2.2,b.2.2.1.2.2.1.1,b.2.2.1.2.2.1.2,b.2.2.2.1)
 fv:=fun y=>()
 fh:=fun y=>(y.1,(y.2.1,(((y.2.2.1,y.2.2.2.1,y.2.2.2.2.1),((y.2.2.2.2.2.1,y.2.2.2.2.2.2.1,y.2.2.2.2.2.2.2.1),((y.2.2.2.2.2.2.2.2.1,y.2.2.2.2.2.2.2.2.2.1),()))),(y.2.2.2.2.2.2.2.2.2.2,()))))
def cl:List (FuncId×Con):=[(74,M74.con),(101,M101.con),(102,M102.con)]
theorem Q5:QG Try.prog cl:=⟨M74.Q1,M101.Q1,M102.Q1,trivial⟩
def E2:Env:=⟨ty,QL cl,fun _=>none,none⟩
structure p1X where
 n:Int
 k:Int
 k1:Int
 top:Int
 i:Int
 c:Int
 rows:List ((Int)×List (Int))
 rs:List ((Int)×List (Int))
 ms:List ((Int)×List (Int))
 wr_lo:Nat
 wr_len:Nat
 wr_cap:Nat
 wm_lo:Nat
 wm_len:Nat
 wm_cap:Nat
 wp_lo:Nat
 wp_len:Nat
 ps:List (Int)
def p1:Pt p1X where
 own:=[.cell 3 2 (.int .i64)]
 t:=⟨[(5,.c (.ptr 3 0)),(32,.c (.it .i64)),(33,.c (.it .i64)),(6,.c (.it .i64)),(7,.c (.it .i64)),(8,.c (.it .i64))],[.st [.it .i64,.arr (.pair (.int .i64) (.sl (.int .u64)))] 1 0,.arr (.pair (.int .i64) (.sl (.int .u64))) 0,.arr (.pair (.int .i64) (.sl (.int .u64))) 0,.st [.slc 1 0 2,.slc 2 0 2,.sl 4 0 1] 1 0,.arr (.int .i64) 0]⟩
 to:=fun v=>⟨v.1.2.1,v.1.2.2.1,v.1.2.2.2.1,v.1.2.2.2.2.1,v.1.2.2.2.2.2.1,v.2.1.1,v.2.1.2.1,v.2.2.1,v.2.2.2.1,v.2.2.2.2.1.1.1,v.2.2.2.2.1.1.2.1,v.2.2.2.2.1.1.2.2,v.2.2.2.2.1.2.1.1,v.2.2.2.2.1.2.1.2.1,v.2.2.2.2.1.2.1.2.2,v.2.2.2.2.1.2.2.1.1,v.2.2.2.2.1.2.2.1.2,v.2.2.2.2.2.1⟩
 fr:=fun x=>(((),(x.n,(x.k,(x.k1,(x.top,(x.i,())))))),((x.c,(x.rows,())),(x.rs,(x.ms,(((x.wr_lo,x.wr_len,x.wr_cap),((x.wm_lo,x.wm_len,x.wm_cap),((x.wp_lo,x.wp_len),()))),(x.ps,()))))))
structure q1X where
 n:Int
 k:Int
 c:Int
 rows:List ((Int)×List (Int))
 rs:List ((Int)×List (Int))
 ms:List ((Int)×List (Int))
 wr_lo:Nat
 wr_len:Nat
 wr_cap:Nat
 wm_lo:Nat
 wm_len:Nat
 wm_cap:Nat
 wp_lo:Nat
 wp_len:Nat
 ps:List (Int)
def q1:Pt q1X where
 own:=[]
 t:=⟨[(5,.c (.ptr 3 0)),(32,.c (.it .i64)),(33,.c (.it .i64))],[.st [.it .i64,.arr (.pair (.int .i64) (.sl (.int .u64)))] 1 0,.arr (.pair (.int .i64) (.sl (.int .u64))) 0,.arr (.pair (.int .i64) (.sl (.int .u64))) 0,.st [.slc 1 0 2,.slc 2 0 2,.sl 4 0 1] 1 0,.arr (.int .i64) 0]⟩
 to:=fun v=>⟨v.1.2.1,v.1.2.2.1,v.2.1.1,v.2.1.2.1,v.2.2.1,v.2.2.2.1,v.2.2.2.2.1.1.1,v.2.2.2.2.1.1.2.1,v.2.2.2.2.1.1.2.2,v.2.2.2.2.1.2.1.1,v.2.2.2.2.1.2.1.2.1,v.2.2.2.2.1.2.1.2.2,v.2.2.2.2.1.2.2.1.1,v.2.2.2.2.1.2.2.1.2,v.2.2.2.2.2.1⟩
 fr:=fun x=>(((),(x.n,(x.k,()))),((x.c,(x.rows,())),(x.rs,(x.ms,(((x.wr_lo,x.wr_len,x.wr_cap),((x.wm_lo,x.wm_len,x.wm_cap),((x.wp_lo,x.wp_len),()))),(x.ps,()))))))
structure z1X where
 n:Int
 k:Int
 c:Int
 rows:List ((Int)×List (Int))
 rs:List ((Int)×List (Int))
 ms:List ((Int)×List (Int))
 wr_lo:Nat
 wr_len:Nat
 wr_cap:Nat
 wm_lo:Nat
 wm_len:Nat
 wm_cap:Nat
 wp_lo:Nat
 wp_len:Nat
 ps:List (Int)
def z1:Pt z1X where
 own:=[]
 t:=⟨[(5,.c (.ptr 3 0)),(32,.c (.it .i64)),(33,.c (.it .i64))],[.st [.it .i64,.arr (.pair (.int .i64) (.sl (.int .u64)))] 1 0,.arr (.pair (.int .i64) (.sl (.int .u64))) 0,.arr (.pair (.int .i64) (.sl (.int .u64))) 0,.st [.slc 1 0 2,.slc 2 0 2,.sl 4 0 1] 1 0,.arr (.int .i64) 0]⟩
 to:=fun v=>⟨v.1.2.1,v.1.2.2.1,v.2.1.1,v.2.1.2.1,v.2.2.1,v.2.2.2.1,v.2.2.2.2.1.1.1,v.2.2.2.2.1.1.2.1,v.2.2.2.2.1.1.2.2,v.2.2.2.2.1.2.1.1,v.2.2.2.2.1.2.1.2.1,v.2.2.2.2.1.2.1.2.2,v.2.2.2.2.1.2.2.1.1,v.2.2.2.2.1.2.2.1.2,v.2.2.2.2.2.1⟩
 fr:=fun x=>(((),(x.n,(x.k,()))),((x.c,(x.rows,())),(x.rs,(x.ms,(((x.wr_lo,x.wr_len,x.wr_cap),((x.wm_lo,x.wm_len,x.wm_cap),((x.wp_lo,x.wp_len),()))),(x.ps,()))))))
def s1(x:p1X):Option (p1X⊕(q1X⊕z1X)):=bif decide (x.i<(↑x.wr_len:Int)) then bif inR x.i x.wr_len then bif decide (x.wr_lo+x.i.toNat<x.rs.length) then Q0 (M74.m ⟨(x.rs[x.wr_lo+x.i.toNat]?.getD (0,[])).1,(x.rs[x.wr_lo+x.i.toNat]?.getD (0,[])).2,x.k1⟩) fun y=>bif !y then some (Sum.inl ⟨x.n,x.k,x.k1,x.top,IntKind.i64.wrap (x.i+1),x.c,x.rows,x.rs,x.ms,x.wr_lo,x.wr_len,x.wr_cap,x.wm_lo,x.wm_len,x.wm_cap,x.wp_lo,x.wp_len,x.ps⟩) else Q0 (M101.m ⟨x.i,x.top,x.wr_lo,x.wr_len,x.wr_cap,x.wm_lo,x.wm_len,x.wm_cap,x.wp_lo,x.wp_len,x.rs,x.ms,x.ps⟩) fun y=>Q0 (M102.m ⟨x.top,x.k1,y.1,y.2.1,y.2.2.1,y.2.2.2.1,y.2.2.2.2.1,y.2.2.2.2.2.1,y.2.2.2.2.2.2.1,y.2.2.2.2.2.2.2.1,y.2.2.2.2.2.2.2.2.1,y.2.2.2.2.2.2.2.2.2.1,y.2.2.2.2.2.2.2.2.2.2⟩) fun y=>bif eqN y.2.2.2.2.2.2.1 0&&eqN y.2.2.2.2.2.2.2.2.2.2.length y.2.2.2.2.2.2.2.1&&QP (y.2.2.2.2.2.2.2.1+1) 8 then some (Sum.inr (Sum.inr ⟨x.n,x.k,x.c,x.rows,y.2.2.2.2.2.2.2.2.1,y.2.2.2.2.2.2.2.2.2.1,y.1,y.2.1,y.2.2.1,y.2.2.2.1,y.2.2.2.2.1,y.2.2.2.2.2.1,0,y.2.2.2.2.2.2.2.1+1,y.2.2.2.2.2.2.2.2.2.2++[x.k1]⟩)) else none else none else none else some (Sum.inr (Sum.inl ⟨x.n,x.k,x.c,x.rows,x.rs,x.ms,x.wr_lo,x.wr_len,x.wr_cap,x.wm_lo,x.wm_len,x.wm_cap,x.wp_lo,x.wp_len,x.ps⟩))
theorem JZ(x:p1X):exec E2 81 (C76.Q2 1) 2 (p1.R x) (p1.H x) (J3 0 p1 (.exit 2) q1 (.exit 1) z1)=s1 x:=by kernel_rfl
def l1:QS:=J4 0 p1 (.exit 2) q1 (.exit 1) z1 s1
theorem tl1:QI (C76.Q2 1) 2=[]:=by kernel_rfl
theorem Jb  :QF Try.prog 81 none 0 (C76.Q2 1) l1:=Qc mixed (Q8 QC Q5 _) (by trivial) (by trivial) (fun _=>rfl) (fun _=>rfl) (fun _=>rfl) (tl1▸QB.nil) JZ
def E1:Env:=⟨ty,QL cl,JA [(1,l1)],none⟩
structure p0X where
 n:Int
 k:Int
 c:Int
 rows:List ((Int)×List (Int))
 rs:List ((Int)×List (Int))
 ms:List ((Int)×List (Int))
 wr_lo:Nat
 wr_len:Nat
 wr_cap:Nat
 wm_lo:Nat
 wm_len:Nat
 wm_cap:Nat
 wp_lo:Nat
 wp_len:Nat
 ps:List (Int)
def p0:Pt p0X where
 own:=[.cell 3 2 (.int .i64)]
 t:=⟨[(5,.c (.ptr 3 0)),(32,.c (.it .i64)),(33,.c (.it .i64))],[.st [.it .i64,.arr (.pair (.int .i64) (.sl (.int .u64)))] 1 0,.arr (.pair (.int .i64) (.sl (.int .u64))) 0,.arr (.pair (.int .i64) (.sl (.int .u64))) 0,.st [.slc 1 0 2,.slc 2 0 2,.sl 4 0 1] 1 0,.arr (.int .i64) 0]⟩
 to:=fun v=>⟨v.1.2.1,v.1.2.2.1,v.2.1.1,v.2.1.2.1,v.2.2.1,v.2.2.2.1,v.2.2.2.2.1.1.1,v.2.2.2.2.1.1.2.1,v.2.2.2.2.1.1.2.2,v.2.2.2.2.1.2.1.1,v.2.2.2.2.1.2.1.2.1,v.2.2.2.2.1.2.1.2.2,v.2.2.2.2.1.2.2.1.1,v.2.2.2.2.1.2.2.1.2,v.2.2.2.2.2.1⟩
 fr:=fun x=>(((),(x.n,(x.k,()))),((x.c,(x.rows,())),(x.rs,(x.ms,(((x.wr_lo,x.wr_len,x.wr_cap),((x.wm_lo,x.wm_len,x.wm_cap),((x.wp_lo,x.wp_len),()))),(x.ps,()))))))
structure q0X where
 c:Int
 rows:List ((Int)×List (Int))
 rs:List ((Int)×List (Int))
 ms:List ((Int)×List (Int))
 wr_lo:Nat
 wr_len:Nat
 wr_cap:Nat
 wm_lo:Nat
 wm_len:Nat
 wm_cap:Nat
 wp_lo:Nat
 wp_len:Nat
 ps:List (Int)
def q0:Pt q0X where
 own:=[]
 t:=⟨[(5,.c (.ptr 3 0))],[.st [.it .i64,.arr (.pair (.int .i64) (.sl (.int .u64)))] 1 0,.arr (.pair (.int .i64) (.sl (.int .u64))) 0,.arr (.pair (.int .i64) (.sl (.int .u64))) 0,.st [.slc 1 0 2,.slc 2 0 2,.sl 4 0 1] 1 0,.arr (.int .i64) 0]⟩
 to:=fun v=>⟨v.2.1.1,v.2.1.2.1,v.2.2.1,v.2.2.2.1,v.2.2.2.2.1.1.1,v.2.2.2.2.1.1.2.1,v.2.2.2.2.1.1.2.2,v.2.2.2.2.1.2.1.1,v.2.2.2.2.1.2.1.2.1,v.2.2.2.2.1.2.1.2.2,v.2.2.2.2.1.2.2.1.1,v.2.2.2.2.1.2.2.1.2,v.2.2.2.2.2.1⟩
 fr:=fun x=>(((),()),((x.c,(x.rows,())),(x.rs,(x.ms,(((x.wr_lo,x.wr_len,x.wr_cap),((x.wm_lo,x.wm_len,x.wm_cap),((x.wp_lo,x.wp_len),()))),(x.ps,()))))))
def s0(x:p0X):Option (p0X⊕q0X):=bif decide (x.k<x.n) then Q0 (iter s1 ⟨x.n,x.k,x.k,(↑x.wp_len:Int),(↑x.wp_len:Int),x.c,x.rows,x.rs,x.ms,x.wr_lo,x.wr_len,x.wr_cap,x.wm_lo,x.wm_len,x.wm_cap,x.wp_lo,x.wp_len,x.ps⟩) fun s=>J6 s (fun y=>some (Sum.inl ⟨y.n,IntKind.i64.wrap (y.k+1),y.c,y.rows,y.rs,y.ms,y.wr_lo,y.wr_len,y.wr_cap,y.wm_lo,y.wm_len,y.wm_cap,y.wp_lo,y.wp_len,y.ps⟩)) fun z=>some (Sum.inl ⟨z.n,IntKind.i64.wrap (z.k+1),z.c,z.rows,z.rs,z.ms,z.wr_lo,z.wr_len,z.wr_cap,z.wm_lo,z.wm_len,z.wm_cap,z.wp_lo,z.wp_len,z.ps⟩) else some (Sum.inr ⟨x.c,x.rows,x.rs,x.ms,x.wr_lo,x.wr_len,x.wr_cap,x.wm_lo,x.wm_len,x.wm_cap,x.wp_lo,x.wp_len,x.ps⟩)
theorem QV(x:p0X):exec E1 81 (C76.Q2 0) 1 (p0.R x) (p0.H x) (Qq 0 p0 (.exit 0) q0)=s0 x:=by kernel_rfl
def l0:QS:=Qr 0 p0 (.exit 0) q0 s0
theorem tl0:QI (C76.Q2 0) 1=[(1,C76.Q2 1)]:=by kernel_rfl
theorem QW  :QF Try.prog 81 none 0 (C76.Q2 0) l0:=QQ mixed (Q8 QC Q5 _) (by trivial) (fun _=>rfl) (fun _=>rfl) (tl0▸(QB.cons rfl Jb QB.nil)) QV
def E0:Env:=⟨ty,QL cl,JA [(0,l0),(1,l1)],none⟩
def m(x:gX):Option fY:=bif decide (0≤(↑x.rows.length:Int))&&decide ((↑x.rows.length:Int)≤(↑x.rows.length:Int))&&decide ((↑x.rows.length:Int)*(↑32:Int)≤281474976710656)&&decide ((↑x.rows.length:Int)≤9223372036854775807) then bif decide (0≤(↑x.more.length:Int))&&decide ((↑x.more.length:Int)≤(↑x.more.length:Int))&&decide ((↑x.more.length:Int)*(↑32:Int)≤281474976710656)&&decide ((↑x.more.length:Int)≤9223372036854775807) then bif leB (0+(↑x.rows.length:Int).toNat) (List.replicate (↑x.rows.length:Int).toNat ((0,[]):Int×List Int)).length then bif leB (0+(↑x.more.length:Int).toNat) (List.replicate (↑x.more.length:Int).toNat ((0,[]):Int×List Int)).length then Q0 (iter s0 ⟨x.c,0,x.c,x.rows,List.take 0 (List.replicate (↑x.rows.length:Int).toNat (0,[]))++List.take (min x.rows.length (↑x.rows.length:Int).toNat) x.rows++List.drop (0+min x.rows.length (↑x.rows.length:Int).toNat) (List.replicate (↑x.rows.length:Int).toNat (0,[])),List.take 0 (List.replicate (↑x.more.length:Int).toNat (0,[]))++List.take (min x.more.length (↑x.more.length:Int).toNat) x.more++List.drop (0+min x.more.length (↑x.more.length:Int).toNat) (List.replicate (↑x.more.length:Int).toNat (0,[])),0,(↑x.rows.length:Int).toNat,(↑x.rows.length:Int).toNat,0,(↑x.more.length:Int).toNat,(↑x.more.length:Int).toNat,0,0,[]⟩) fun y=>some (y.rs,y.ms,y.wr_lo,y.wr_len,y.wr_cap,y.wm_lo,y.wm_len,y.wm_cap,y.wp_lo,y.wp_len,y.ps) else none else none else none else none
theorem QJ(x:gX):exec E0 81 C76 0 (QN 0 (g.A x)) (g.H x) (finish 0 ty [.tmp 4] f)=m x:=by kernel_rfl
theorem tl:QI C76 0=[(0,C76.Q2 0)]:=by kernel_rfl
theorem known:QM Try.prog 76 g f m:=
 Q9 mixed (Q8 QC Q5 _) s76 rfl rfl tl (QB.cons rfl QW QB.nil) (fun _ _=>⟨rfl,rfl⟩) (fun _ _=>⟨rfl,rfl⟩) QJ
def con:Con:=j4 g [] f m default
theorem Q1:QO Try.prog 76 con:=ZZ known
end M76
end Go.Proofs.Ytddaobhpffpmoaa
namespace Go.Proofs.Ytddaobhpffpmoaa
open Go.Abs
set_option maxRecDepth 100000
namespace M50
structure gX where
 c:Int
 rows:List ((Int)×List (Int))
def g:Sg gX where
 vs:=[.agg [.it .i64,.arr (.pair (.int .i64) (.sl (.int .u64)))]]
 h:=[]
 to:=fun a b=>⟨a.1.1,a.1.2.1⟩
 fa:=fun x=>((x.c,(x.rows,())),())
 fh:=fun x=>()
abbrev fY:=Int
def f:Ft fY where
 ord:=none
 sh:=.c (.it .i64)
 h:=[]
 to:=fun a b=>(a)
 fv:=fun y=>y
 fh:=fun y=>()
def cl:List (FuncId×Con):=[(85,M85.con),(38,M38.con)]
theorem Q5:QG Try.prog cl:=⟨M85.Q1,M38.Q1,trivial⟩
def E1:Env:=⟨ty,QL cl,fun _=>none,none⟩
structure p0X where
 l:List ((Int)×List (Int))
 k:Int
 i:Int
 c:Int
 rows:List ((Int)×List (Int))
def p0:Pt p0X where
 own:=[]
 t:=⟨[(1,.c (.ptr 0 0)),(22,.c (.arr (.pair (.int .i64) (.sl (.int .u64))))),(23,.c (.it .i64)),(24,.c (.it .i64))],[.st [.it .i64,.arr (.pair (.int .i64) (.sl (.int .u64)))] 1 0]⟩
 to:=fun v=>⟨v.1.2.1,v.1.2.2.1,v.1.2.2.2.1,v.2.1.1,v.2.1.2.1⟩
 fr:=fun x=>(((),(x.l,(x.k,(x.i,())))),((x.c,(x.rows,())),()))
abbrev q0X:=Unit
def q0:Pt q0X where
 own:=[]
 t:=⟨[],[]⟩
 to:=fun v=>()
 fr:=fun x=>((),())
structure z0X where
 r:Int
def z0:Pt z0X where
 own:=[]
 t:=⟨[(2,.c (.it .i64))],[]⟩
 to:=fun v=>⟨v.1.1⟩
 fr:=fun x=>((x.r,()),())
def s0(x:p0X):Option (p0X⊕(q0X⊕z0X)):=bif decide (x.i<x.k) then bif inR x.i x.l.length then Q0 (M38.m ⟨(x.l[x.i.toNat]?.getD (0,[])).1,(x.l[x.i.toNat]?.getD (0,[])).2⟩) fun y=>bif y !=0 then some (Sum.inr (Sum.inr ⟨y⟩)) else bif (x.l[x.i.toNat]?.getD (0,[])).1 !=x.c then some (Sum.inr (Sum.inr ⟨8⟩)) else some (Sum.inl ⟨x.l,x.k,IntKind.i64.wrap (x.i+1),x.c,x.rows⟩) else none else some (Sum.inr (Sum.inl PUnit.unit))
theorem QV(x:p0X):exec E1 39 (C50.Q2 0) 1 (p0.R x) (p0.H x) (J3 0 p0 (.exit 0) q0 .ret z0)=s0 x:=by kernel_rfl
def l0:QS:=J4 0 p0 (.exit 0) q0 .ret z0 s0
theorem tl0:QI (C50.Q2 0) 1=[]:=by kernel_rfl
theorem QW  :QF Try.prog 39 none 0 (C50.Q2 0) l0:=Qc mixed (Q8 QC Q5 _) (by trivial) (by trivial) (fun _=>rfl) (fun _=>rfl) (fun _=>rfl) (tl0▸QB.nil) QV
def E0:Env:=⟨ty,QL cl,JA [(0,l0)],none⟩
def m(x:gX):Option fY:=Q0 (M85.m ⟨x.c⟩) fun y=>bif y !=0 then some y else Q0 (M85.m ⟨(↑x.rows.length:Int)⟩) fun y=>bif y !=0 then some y else Q0 (iter s0 ⟨x.rows,(↑x.rows.length:Int),0,x.c,x.rows⟩) fun s=>J6 s (fun y=>some 0) fun z=>some z.r
theorem QJ(x:gX):exec E0 39 C50 0 (QN 0 (g.A x)) (g.H x) (finish 0 ty [.tmp 2] f)=m x:=by kernel_rfl
theorem tl:QI C50 0=[(0,C50.Q2 0)]:=by kernel_rfl
theorem known:QM Try.prog 50 g f m:=
 Q9 mixed (Q8 QC Q5 _) s50 rfl rfl tl (QB.cons rfl QW QB.nil) (fun _ _=>⟨rfl,rfl⟩) (fun _ _=>⟨rfl,rfl⟩) QJ
def con:Con:=Qx g f m default
theorem Q1:QO Try.prog 50 con:=QE known (fun _=>rfl) rfl
def Wj:Con:=US g f m default
theorem ZY:QO Try.prog 50 Wj:=UR known (fun _=>rfl) (fun _=>rfl)
end M50
namespace M29
structure gX where
 c:Int
 rows:List ((Int)×List (Int))
 vn:Int
 vw:List (Int)
def g:Sg gX where
 vs:=[.agg [.it .i64,.arr (.pair (.int .i64) (.sl (.int .u64)))],.agg [.it .i64,.arr (.int .u64)]]
 h:=[]
 to:=fun a b=>⟨a.1.1,a.1.2.1,a.2.1.1,a.2.1.2.1⟩
 fa:=fun x=>((x.c,(x.rows,())),((x.vn,(x.vw,())),()))
 fh:=fun x=>()
abbrev fY:=Int×List (Int)×Int
def f:Ft fY where
 ord:=none
 sh:=.tup [.inr [.it .i64,.arr (.int .u64)],.inl (.it .i64)]
 h:=[]
 to:=fun a b=>(a.1.1,a.1.2.1,a.2.1)
 fv:=fun y=>((y.1,(y.2.1,())),(y.2.2,()))
 fh:=fun y=>()
def cl:List (FuncId×Con):=[(50,M50.con),(38,M38.con),(73,M73.con),(81,M81.con),(75,M75.con)]
theorem Q5:QG Try.prog cl:=⟨M50.Q1,M38.Q1,M73.Q1,M81.Q1,M75.Q1,trivial⟩
def E1:Env:=⟨ty,QL cl,fun _=>none,none⟩
structure p0X where
 l:List ((Int)×List (Int))
 k:Int
 i:Int
 c:Int
 rows:List ((Int)×List (Int))
 vn:Int
 vw:List (Int)
 ws:List (Int)
 on:Int
 ow_lo:Nat
 ow_len:Nat
 ow_cap:Nat
def p0:Pt p0X where
 own:=[]
 t:=⟨[(2,.c (.ptr 0 0)),(3,.c (.ptr 1 0)),(4,.c (.ptr 2 0)),(8,.c (.ptr 4 0)),(34,.c (.arr (.pair (.int .i64) (.sl (.int .u64))))),(35,.c (.it .i64)),(36,.c (.it .i64))],[.st [.it .i64,.arr (.pair (.int .i64) (.sl (.int .u64)))] 1 0,.st [.it .i64,.arr (.int .u64)] 1 0,.st [.junk,.junk] 1 0,.arr (.int .u64) 0,.st [.it .i64,.slc 3 0 1] 1 0]⟩
 to:=fun v=>⟨v.1.2.2.2.2.1,v.1.2.2.2.2.2.1,v.1.2.2.2.2.2.2.1,v.2.1.1,v.2.1.2.1,v.2.2.1.1,v.2.2.1.2.1,v.2.2.2.2.1,v.2.2.2.2.2.1.1,v.2.2.2.2.2.1.2.1.1,v.2.2.2.2.2.1.2.1.2.1,v.2.2.2.2.2.1.2.1.2.2⟩
 fr:=fun x=>(((),((),((),((),(x.l,(x.k,(x.i,()))))))),((x.c,(x.rows,())),((x.vn,(x.vw,())),(((),((),())),(x.ws,((x.on,((x.ow_lo,x.ow_len,x.ow_cap),())),()))))))
structure q0X where
 c:Int
 rows:List ((Int)×List (Int))
 vn:Int
 vw:List (Int)
 ws:List (Int)
 on:Int
 ow_lo:Nat
 ow_len:Nat
 ow_cap:Nat
def q0:Pt q0X where
 own:=[]
 t:=⟨[(4,.c (.ptr 2 0)),(8,.c (.ptr 4 0))],[.st [.it .i64,.arr (.pair (.int .i64) (.sl (.int .u64)))] 1 0,.st [.it .i64,.arr (.int .u64)] 1 0,.st [.junk,.junk] 1 0,.arr (.int .u64) 0,.st [.it .i64,.slc 3 0 1] 1 0]⟩
 to:=fun v=>⟨v.2.1.1,v.2.1.2.1,v.2.2.1.1,v.2.2.1.2.1,v.2.2.2.2.1,v.2.2.2.2.2.1.1,v.2.2.2.2.2.1.2.1.1,v.2.2.2.2.2.1.2.1.2.1,v.2.2.2.2.2.1.2.1.2.2⟩
 fr:=fun x=>(((),((),())),((x.c,(x.rows,())),((x.vn,(x.vw,())),(((),((),())),(x.ws,((x.on,((x.ow_lo,x.ow_len,x.ow_cap),())),()))))))
def s0(x:p0X):Option (p0X⊕q0X):=bif decide (x.i<x.k) then bif inR x.i x.l.length then Q0 (M81.m ⟨(x.l[x.i.toNat]?.getD (0,[])).1,(x.l[x.i.toNat]?.getD (0,[])).2,x.vn,x.vw⟩) fun y=>bif y then Q0 (M75.m ⟨x.on,x.ow_lo,x.ow_len,x.ow_cap,x.i,x.ws⟩) fun y=>some (Sum.inl ⟨x.l,x.k,IntKind.i64.wrap (x.i+1),x.c,x.rows,x.vn,x.vw,y,x.on,x.ow_lo,x.ow_len,x.ow_cap⟩) else some (Sum.inl ⟨x.l,x.k,IntKind.i64.wrap (x.i+1),x.c,x.rows,x.vn,x.vw,x.ws,x.on,x.ow_lo,x.ow_len,x.ow_cap⟩) else none else some (Sum.inr ⟨x.c,x.rows,x.vn,x.vw,x.ws,x.on,x.ow_lo,x.ow_len,x.ow_cap⟩)
theorem QV(x:p0X):exec E1 49 (C29.Q2 0) 1 (p0.R x) (p0.H x) (Qq 0 p0 (.exit 0) q0)=s0 x:=by kernel_rfl
def l0:QS:=Qr 0 p0 (.exit 0) q0 s0
theorem tl0:QI (C29.Q2 0) 1=[]:=by kernel_rfl
theorem QW  :QF Try.prog 49 none 0 (C29.Q2 0) l0:=QQ mixed (Q8 QC Q5 _) (by trivial) (fun _=>rfl) (fun _=>rfl) (tl0▸QB.nil) QV
def E0:Env:=⟨ty,QL cl,JA [(0,l0)],none⟩
def m(x:gX):Option fY:=Q0 (M50.m ⟨x.c,x.rows⟩) fun y=>bif y !=0 then some (0,[],y) else Q0 (M38.m ⟨x.vn,x.vw⟩) fun y=>bif y !=0 then some (0,[],y) else bif x.vn !=x.c then some (0,[],8) else Q0 (M73.m ⟨(↑x.rows.length:Int)⟩) fun y=>Q0 (iter s0 ⟨x.rows,(↑x.rows.length:Int),0,x.c,x.rows,x.vn,x.vw,y.2.2.2.2,y.1,y.2.1,y.2.2.1,y.2.2.2.1⟩) fun y=>bif leB (y.ow_lo+y.ow_len) y.ws.length&&true&&true&&true&&true then some (y.on,List.take y.ow_len (List.drop y.ow_lo y.ws),0) else none
theorem QJ(x:gX):exec E0 49 C29 0 (QN 0 (g.A x)) (g.H x) (finish 0 ty [.cell 4 34,.tmp 5] f)=m x:=by kernel_rfl
theorem tl:QI C29 0=[(0,C29.Q2 0)]:=by kernel_rfl
theorem known:QM Try.prog 29 g f m:=
 Q9 mixed (Q8 QC Q5 _) s29 rfl rfl tl (QB.cons rfl QW QB.nil) (fun _ _=>⟨rfl,rfl⟩) (fun _ _=>⟨rfl,rfl⟩) QJ
def con:Con:=Qx g f m default
theorem Q1:QO Try.prog 29 con:=QE known (fun _=>rfl) rfl
end M29
end Go.Proofs.Ytddaobhpffpmoaa
namespace Go.Proofs.Ytddaobhpffpmoaa
open Go.Abs
set_option maxRecDepth 100000
namespace M52
structure gX where
 l:List (Int)
def g:Sg gX where
 vs:=[.c (.arr (.int .u8))]
 h:=[]
 to:=fun a b=>⟨a.1⟩
 fa:=fun x=>(x.l,())
 fh:=fun x=>()
abbrev fY:=Int×List (Int)×Int
def f:Ft fY where
 ord:=none
 sh:=.tup [.inr [.it .i64,.arr (.int .u64)],.inl (.it .i64)]
 h:=[]
 to:=fun a b=>(a.1.1,a.1.2.1,a.2.1)
 fv:=fun y=>((y.1,(y.2.1,())),(y.2.2,()))
 fh:=fun y=>()
def cl:List (FuncId×Con):=[(51,M51.con),(75,M75.con)]
theorem Q5:QG Try.prog cl:=⟨M51.Q1,M75.Q1,trivial⟩
def E1:Env:=⟨ty,QL cl,fun _=>none,none⟩
structure p0X where
 l:List (Int)
 n:Int
 i:Int
 ws:List (Int)
 vn:Int
 vw_lo:Nat
 vw_len:Nat
 vw_cap:Nat
def p0:Pt p0X where
 own:=[]
 t:=⟨[(2,.c (.ptr 0 0)),(4,.c (.ptr 2 0)),(18,.c (.arr (.int .u8))),(19,.c (.it .i64)),(20,.c (.it .i64))],[.st [.junk,.junk] 1 0,.arr (.int .u64) 0,.st [.it .i64,.slc 1 0 1] 1 0]⟩
 to:=fun v=>⟨v.1.2.2.1,v.1.2.2.2.1,v.1.2.2.2.2.1,v.2.2.1,v.2.2.2.1.1,v.2.2.2.1.2.1.1,v.2.2.2.1.2.1.2.1,v.2.2.2.1.2.1.2.2⟩
 fr:=fun x=>(((),((),(x.l,(x.n,(x.i,()))))),(((),((),())),(x.ws,((x.vn,((x.vw_lo,x.vw_len,x.vw_cap),())),()))))
structure q0X where
 ws:List (Int)
 vn:Int
 vw_lo:Nat
 vw_len:Nat
 vw_cap:Nat
def q0:Pt q0X where
 own:=[]
 t:=⟨[(2,.c (.ptr 0 0)),(4,.c (.ptr 2 0))],[.st [.junk,.junk] 1 0,.arr (.int .u64) 0,.st [.it .i64,.slc 1 0 1] 1 0]⟩
 to:=fun v=>⟨v.2.2.1,v.2.2.2.1.1,v.2.2.2.1.2.1.1,v.2.2.2.1.2.1.2.1,v.2.2.2.1.2.1.2.2⟩
 fr:=fun x=>(((),((),())),(((),((),())),(x.ws,((x.vn,((x.vw_lo,x.vw_len,x.vw_cap),())),()))))
structure z0X where
 e:Int
 rn:Int
def z0:Pt z0X where
 own:=[]
 t:=⟨[(2,.c (.ptr 0 0)),(3,.c (.it .i64))],[.st [.it .i64,.nils] 1 0]⟩
 to:=fun v=>⟨v.1.2.1,v.2.1.1⟩
 fr:=fun x=>(((),(x.e,())),((x.rn,((),())),()))
def s0(x:p0X):Option (p0X⊕(q0X⊕z0X)):=bif decide (x.i<x.n) then bif inR x.i x.l.length then bif decide (x.l[x.i.toNat]?.getD 0>1) then some (Sum.inr (Sum.inr ⟨1,0⟩)) else bif x.l[x.i.toNat]?.getD 0==1 then Q0 (M75.m ⟨x.vn,x.vw_lo,x.vw_len,x.vw_cap,x.i,x.ws⟩) fun y=>some (Sum.inl ⟨x.l,x.n,IntKind.i64.wrap (x.i+1),y,x.vn,x.vw_lo,x.vw_len,x.vw_cap⟩) else some (Sum.inl ⟨x.l,x.n,IntKind.i64.wrap (x.i+1),x.ws,x.vn,x.vw_lo,x.vw_len,x.vw_cap⟩) else none else some (Sum.inr (Sum.inl ⟨x.ws,x.vn,x.vw_lo,x.vw_len,x.vw_cap⟩))
theorem QV(x:p0X):exec E1 35 (C52.Q2 0) 1 (p0.R x) (p0.H x) (J3 0 p0 (.exit 0) q0 .ret z0)=s0 x:=by kernel_rfl
def l0:QS:=J4 0 p0 (.exit 0) q0 .ret z0 s0
theorem tl0:QI (C52.Q2 0) 1=[]:=by kernel_rfl
theorem QW  :QF Try.prog 35 none 0 (C52.Q2 0) l0:=Qc mixed (Q8 QC Q5 _) (by trivial) (by trivial) (fun _=>rfl) (fun _=>rfl) (fun _=>rfl) (tl0▸QB.nil) QV
def E0:Env:=⟨ty,QL cl,JA [(0,l0)],none⟩
def m(x:gX):Option fY:=Q0 (M51.m ⟨(↑x.l.length:Int)⟩) fun y=>bif y.2.2.2.2.1 !=0 then some (0,[],y.2.2.2.2.1) else Q0 (iter s0 ⟨x.l,(↑x.l.length:Int),0,y.2.2.2.2.2,y.1,y.2.1,y.2.2.1,y.2.2.2.1⟩) fun s=>J6 s (fun y=>bif leB (y.vw_lo+y.vw_len) y.ws.length&&true&&true&&true&&true then some (y.vn,List.take y.vw_len (List.drop y.vw_lo y.ws),0) else none) fun z=>some (z.rn,[],z.e)
theorem QJ(x:gX):exec E0 35 C52 0 (QN 0 (g.A x)) (g.H x) (finish 0 ty [.cell 2 34,.tmp 3] f)=m x:=by kernel_rfl
theorem tl:QI C52 0=[(0,C52.Q2 0)]:=by kernel_rfl
theorem known:QM Try.prog 52 g f m:=
 Q9 mixed (Q8 QC Q5 _) s52 rfl rfl tl (QB.cons rfl QW QB.nil) (fun _ _=>⟨rfl,rfl⟩) (fun _ _=>⟨rfl,rfl⟩) QJ
def con:Con:=Qx g f m default
theorem Q1:QO Try.prog 52 con:=QE known (fun _=>rfl) rfl
end M52
namespace M24
structure gX where
 l:List (Int)
def g:Sg gX where
 vs:=[.c (.arr (.int .u8))]
 h:=[]
 to:=fun a b=>⟨a.1⟩
 fa:=fun x=>(x.l,())
 fh:=fun x=>()
abbrev fY:=Int×List (Int)
def f:Ft fY where
 ord:=none
 sh:=.agg [.it .i64,.arr (.int .u64)]
 h:=[]
 to:=fun a b=>(a.1,a.2.1)
 fv:=fun y=>(y.1,(y.2,()))
 fh:=fun y=>()
def cl:List (FuncId×Con):=[(52,M52.con)]
theorem Q5:QG Try.prog cl:=⟨M52.Q1,trivial⟩
def E0:Env:=⟨ty,QL cl,fun _=>none,none⟩
def m(x:gX):Option fY:=Q0 (M52.m ⟨x.l⟩) fun y=>some (y.1,y.2.1)
theorem QJ(x:gX):exec E0 11 C24 0 (QN 0 (g.A x)) (g.H x) (finish 0 ty [.cell 2 34] f)=m x:=by kernel_rfl
theorem tl:QI C24 0=[]:=by kernel_rfl
theorem known:QM Try.prog 24 g f m:=
 Q9 mixed (Q8 QC Q5 _) s24 rfl rfl tl QB.nil (fun _ _=>⟨rfl,rfl⟩) (fun _ _=>⟨rfl,rfl⟩) QJ
def con:Con:=Qx g f m default
theorem Q1:QO Try.prog 24 con:=QE known (fun _=>rfl) rfl
end M24
namespace M34
structure gX where
 n:Int
 w:List (Int)
def g:Sg gX where
 vs:=[.agg [.it .i64,.arr (.int .u64)]]
 h:=[]
 to:=fun a b=>⟨a.1.1,a.1.2.1⟩
 fa:=fun x=>((x.n,(x.w,())),())
 fh:=fun x=>()
abbrev fY:=List (Int)
def f:Ft fY where
 ord:=none
 sh:=.c (.arr (.int .u8))
 h:=[]
 to:=fun a b=>(a)
 fv:=fun y=>y
 fh:=fun y=>()
def cl:List (FuncId×Con):=[(38,M38.con),(74,M74.con)]
theorem Q5:QG Try.prog cl:=⟨M38.Q1,M74.Q1,trivial⟩
def E1:Env:=⟨ty,QL cl,fun _=>none,none⟩
structure p0X where
 out_lo:Nat
 out_len:Nat
 out_cap:Nat
 k:Int
 i:Int
 n:Int
 w:List (Int)
 xs:List (Int)
def p0:Pt p0X where
 own:=[]
 t:=⟨[(1,.c (.ptr 0 0)),(3,.c (.slc 1 0 1)),(12,.c (.it .i64)),(13,.c (.it .i64))],[.st [.it .i64,.arr (.int .u64)] 1 0,.arr (.int .u8) 0]⟩
 to:=fun v=>⟨v.1.2.1.1,v.1.2.1.2.1,v.1.2.1.2.2,v.1.2.2.1,v.1.2.2.2.1,v.2.1.1,v.2.1.2.1,v.2.2.1⟩
 fr:=fun x=>(((),((x.out_lo,x.out_len,x.out_cap),(x.k,(x.i,())))),((x.n,(x.w,())),(x.xs,())))
structure q0X where
 out_lo:Nat
 out_len:Nat
 out_cap:Nat
 n:Int
 w:List (Int)
 xs:List (Int)
def q0:Pt q0X where
 own:=[]
 t:=⟨[(3,.c (.slc 1 0 1))],[.st [.it .i64,.arr (.int .u64)] 1 0,.arr (.int .u8) 0]⟩
 to:=fun v=>⟨v.1.1.1,v.1.1.2.1,v.1.1.2.2,v.2.1.1,v.2.1.2.1,v.2.2.1⟩
 fr:=fun x=>(((x.out_lo,x.out_len,x.out_cap),()),((x.n,(x.w,())),(x.xs,())))
def s0(x:p0X):Option (p0X⊕q0X):=bif decide (x.i<x.k) then Q0 (M74.m ⟨x.n,x.w,x.i⟩) fun y=>bif y then bif inR x.i x.out_len then bif decide (x.out_lo+x.i.toNat<x.xs.length) then some (Sum.inl ⟨x.out_lo,x.out_len,x.out_cap,x.k,IntKind.i64.wrap (x.i+1),x.n,x.w,x.xs.set (x.out_lo+x.i.toNat) 1⟩) else none else none else some (Sum.inl ⟨x.out_lo,x.out_len,x.out_cap,x.k,IntKind.i64.wrap (x.i+1),x.n,x.w,x.xs⟩) else some (Sum.inr ⟨x.out_lo,x.out_len,x.out_cap,x.n,x.w,x.xs⟩)
theorem QV(x:p0X):exec E1 24 (C34.Q2 0) 1 (p0.R x) (p0.H x) (Qq 0 p0 (.exit 0) q0)=s0 x:=by kernel_rfl
def l0:QS:=Qr 0 p0 (.exit 0) q0 s0
theorem tl0:QI (C34.Q2 0) 1=[]:=by kernel_rfl
theorem QW  :QF Try.prog 24 none 0 (C34.Q2 0) l0:=QQ mixed (Q8 QC Q5 _) (by trivial) (fun _=>rfl) (fun _=>rfl) (tl0▸QB.nil) QV
def E0:Env:=⟨ty,QL cl,JA [(0,l0)],none⟩
def m(x:gX):Option fY:=Q0 (M38.m ⟨x.n,x.w⟩) fun y=>bif y !=0 then some [] else bif decide (0≤x.n)&&decide (x.n≤x.n)&&decide (x.n*(↑1:Int)≤281474976710656)&&decide (x.n≤9223372036854775807) then Q0 (iter s0 ⟨0,x.n.toNat,x.n.toNat,(↑x.n.toNat:Int),0,x.n,x.w,List.replicate x.n.toNat (0:Int)⟩) fun y=>bif leB (y.out_lo+y.out_len) y.xs.length&&true&&true then some (List.take y.out_len (List.drop y.out_lo y.xs)) else none else none
theorem QJ(x:gX):exec E0 24 C34 0 (QN 0 (g.A x)) (g.H x) (finish 0 ty [.tmp 2] f)=m x:=by kernel_rfl
theorem tl:QI C34 0=[(0,C34.Q2 0)]:=by kernel_rfl
theorem known:QM Try.prog 34 g f m:=
 Q9 mixed (Q8 QC Q5 _) s34 rfl rfl tl (QB.cons rfl QW QB.nil) (fun _ _=>⟨rfl,rfl⟩) (fun _ _=>⟨rfl,rfl⟩) QJ
def con:Con:=Qx g f m default
theorem Q1:QO Try.prog 34 con:=QE known (fun _=>rfl) rfl
end M34
namespace M37
structure gX where
 n:Int
 w:List (Int)
 i:Int
def g:Sg gX where
 vs:=[.agg [.it .i64,.arr (.int .u64)],.c (.it .i64)]
 h:=[]
 to:=fun a b=>⟨a.1.1,a.1.2.1,a.2.1⟩
 fa:=fun x=>((x.n,(x.w,())),(x.i,()))
 fh:=fun x=>()
abbrev fY:=Int
def f:Ft fY where
 ord:=none
 sh:=.c (.it .u8)
 h:=[]
 to:=fun a b=>(a)
 fv:=fun y=>y
 fh:=fun y=>()
def cl:List (FuncId×Con):=[(38,M38.con),(74,M74.con)]
theorem Q5:QG Try.prog cl:=⟨M38.Q1,M74.Q1,trivial⟩
def E0:Env:=⟨ty,QL cl,fun _=>none,none⟩
def m(x:gX):Option fY:=Q0 (M38.m ⟨x.n,x.w⟩) fun y=>Q0 (bif !bif bif y !=0 then true else decide (x.i<0) then true else decide (x.i≥x.n) then M74.m ⟨x.n,x.w,x.i⟩ else some false) fun y_1=>bif bif bif bif y !=0 then true else decide (x.i<0) then true else decide (x.i≥x.n) then true else !y_1 then some 0 else some 1
theorem QJ(x:gX):exec E0 24 C37 0 (QN 0 (g.A x)) (g.H x) (finish 0 ty [.tmp 4] f)=m x:=by kernel_rfl
theorem tl:QI C37 0=[]:=by kernel_rfl
theorem known:QM Try.prog 37 g f m:=
 Q9 mixed (Q8 QC Q5 _) s37 rfl rfl tl QB.nil (fun _ _=>⟨rfl,rfl⟩) (fun _ _=>⟨rfl,rfl⟩) QJ
def con:Con:=Qx g f m default
theorem Q1:QO Try.prog 37 con:=QE known (fun _=>rfl) rfl
end M37
namespace M36
structure gX where
 n:Int
 w:List (Int)
def g:Sg gX where
 vs:=[.agg [.it .i64,.arr (.int .u64)]]
 h:=[]
 to:=fun a b=>⟨a.1.1,a.1.2.1⟩
 fa:=fun x=>((x.n,(x.w,())),())
 fh:=fun x=>()
abbrev fY:=Int
def f:Ft fY where
 ord:=none
 sh:=.c (.it .i64)
 h:=[]
 to:=fun a b=>(a)
 fv:=fun y=>y
 fh:=fun y=>()
def cl:List (FuncId×Con):=[(38,M38.con),(84,M84.con)]
theorem Q5:QG Try.prog cl:=⟨M38.Q1,M84.Q1,trivial⟩
def E0:Env:=⟨ty,QL cl,fun _=>none,none⟩
def m(x:gX):Option fY:=Q0 (M38.m ⟨x.n,x.w⟩) fun y=>bif y !=0 then some 0 else Q0 (M84.m ⟨x.n,x.w⟩) fun y=>some y
theorem QJ(x:gX):exec E0 8 C36 0 (QN 0 (g.A x)) (g.H x) (finish 0 ty [.tmp 2] f)=m x:=by kernel_rfl
theorem tl:QI C36 0=[]:=by kernel_rfl
theorem known:QM Try.prog 36 g f m:=
 Q9 mixed (Q8 QC Q5 _) s36 rfl rfl tl QB.nil (fun _ _=>⟨rfl,rfl⟩) (fun _ _=>⟨rfl,rfl⟩) QJ
def con:Con:=Qx g f m default
theorem Q1:QO Try.prog 36 con:=QE known (fun _=>rfl) rfl
end M36
end Go.Proofs.Ytddaobhpffpmoaa
namespace Go.Proofs.Ytddaobhpffpmoaa
open Go.Abs
set_option maxRecDepth 100000
namespace M21
structure gX where
 r:Int
 c:Int
 a:List (Int)
 n:Int
 k:Int
def g:Sg gX where
 vs:=[.agg [.it .u8,.it .u8,.arr (.int .u8)],.c (.it .i64),.c (.it .i64)]
 h:=[]
 to:=fun a b=>⟨a.1.1,a.1.2.1,a.1.2.2.1,a.2.1,a.2.2.1⟩
 fa:=fun x=>((x.r,(x.c,(x.a,()))),(x.n,(x.k,())))
 fh:=fun x=>()
abbrev fY:=List (List (Int))
def f:Ft fY where
 ord:=none
 sh:=.c (.arr (.sl (.int .u8)))
 h:=[]
 to:=fun a b=>(a)
 fv:=fun y=>y
 fh:=fun y=>()
def cl:List (FuncId×Con):=[]
theorem Q5:QG Try.prog cl:=trivial
def E2:Env:=⟨ty,QL cl,fun _=>none,none⟩
structure p1X where
 n:Int
 k:Int
 out_lo:Nat
 out_len:Nat
 i:Int
 row_lo:Nat
 row_len:Nat
 j:Int
 mr:Int
 mc:Int
 a:List (Int)
 out:List (List (Int))
 row:List (Int)
def p1:Pt p1X where
 own:=[.reg 9 (.int .u8)]
 t:=⟨[(1,.c (.it .i64)),(2,.c (.it .i64)),(3,.c (.ptr 0 0)),(7,.c (.sl 1 0 1)),(8,.c (.it .i64)),(9,.c (.sl 2 0 1)),(10,.c (.it .i64))],[.st [.it .u8,.it .u8,.arr (.int .u8)] 1 0,.arr (.sl (.int .u8)) 0,.arr (.int .u8) 0]⟩
 to:=fun v=>⟨v.1.1,v.1.2.1,v.1.2.2.2.1.1,v.1.2.2.2.1.2,v.1.2.2.2.2.1,v.1.2.2.2.2.2.1.1,v.1.2.2.2.2.2.1.2,v.1.2.2.2.2.2.2.1,v.2.1.1,v.2.1.2.1,v.2.1.2.2.1,v.2.2.1,v.2.2.2.1⟩
 fr:=fun x=>((x.n,(x.k,((),((x.out_lo,x.out_len),(x.i,((x.row_lo,x.row_len),(x.j,()))))))),((x.mr,(x.mc,(x.a,()))),(x.out,(x.row,()))))
structure q1X where
 n:Int
 k:Int
 out_lo:Nat
 out_len:Nat
 i:Int
 row_lo:Nat
 row_len:Nat
 mr:Int
 mc:Int
 a:List (Int)
 out:List (List (Int))
 row:List (Int)
def q1:Pt q1X where
 own:=[]
 t:=⟨[(1,.c (.it .i64)),(2,.c (.it .i64)),(3,.c (.ptr 0 0)),(7,.c (.sl 1 0 1)),(8,.c (.it .i64)),(9,.c (.sl 2 0 1))],[.st [.it .u8,.it .u8,.arr (.int .u8)] 1 0,.arr (.sl (.int .u8)) 0,.arr (.int .u8) 0]⟩
 to:=fun v=>⟨v.1.1,v.1.2.1,v.1.2.2.2.1.1,v.1.2.2.2.1.2,v.1.2.2.2.2.1,v.1.2.2.2.2.2.1.1,v.1.2.2.2.2.2.1.2,v.2.1.1,v.2.1.2.1,v.2.1.2.2.1,v.2.2.1,v.2.2.2.1⟩
 fr:=fun x=>((x.n,(x.k,((),((x.out_lo,x.out_len),(x.i,((x.row_lo,x.row_len),())))))),((x.mr,(x.mc,(x.a,()))),(x.out,(x.row,()))))
def s1(x:p1X):Option (p1X⊕q1X):=bif decide (x.j<x.k) then bif bif inR (IntKind.i64.wrap ((IntKind.i64.wrap (IntKind.i64.wrap (x.i*x.k)+x.j)).tdiv 8)) x.a.length&&(decide (0≤(IntKind.i64.wrap (IntKind.i64.wrap (x.i*x.k)+x.j)).tmod 8)&&true) then true else bif decide (IntKind.i64.wrap ((IntKind.i64.wrap (IntKind.i64.wrap (x.i*x.k)+x.j)).tdiv 8)<(↑x.a.length:Int)) then false else true then bif eqN x.row_lo 0&&eqN x.row.length x.row_len&&QP (x.row_len+1) 1 then some (Sum.inl ⟨x.n,x.k,x.out_lo,x.out_len,x.i,0,x.row_len+1,IntKind.i64.wrap (x.j+1),x.mr,x.mc,x.a,x.out,x.row++[bif decide (IntKind.i64.wrap ((IntKind.i64.wrap (IntKind.i64.wrap (x.i*x.k)+x.j)).tdiv 8)<(↑x.a.length:Int)) then IntKind.u8.wrap (↑(BitVec.ofInt 8 (Int.fdiv (x.a[(IntKind.i64.wrap ((IntKind.i64.wrap (IntKind.i64.wrap (x.i*x.k)+x.j)).tdiv 8)).toNat]?.getD 0) (2^min ((IntKind.i64.wrap (IntKind.i64.wrap (x.i*x.k)+x.j)).tmod 8).toNat 8))&&&BitVec.ofInt 8 1).toNat:Int) else 0]⟩) else none else none else some (Sum.inr ⟨x.n,x.k,x.out_lo,x.out_len,x.i,x.row_lo,x.row_len,x.mr,x.mc,x.a,x.out,x.row⟩)
theorem JZ(x:p1X):exec E2 53 (C21.Q2 1) 2 (p1.R x) (p1.H x) (Qq 0 p1 (.exit 2) q1)=s1 x:=by kernel_rfl
def l1:QS:=Qr 0 p1 (.exit 2) q1 s1
theorem tl1:QI (C21.Q2 1) 2=[]:=by kernel_rfl
theorem Jb  :QF Try.prog 53 none 0 (C21.Q2 1) l1:=QQ mixed (Q8 QC Q5 _) (by trivial) (fun _=>rfl) (fun _=>rfl) (tl1▸QB.nil) JZ
def E1:Env:=⟨ty,QL cl,JA [(1,l1)],none⟩
structure p0X where
 n:Int
 k:Int
 out_lo:Nat
 out_len:Nat
 i:Int
 mr:Int
 mc:Int
 a:List (Int)
 out:List (List (Int))
def p0:Pt p0X where
 own:=[.reg 7 (.sl (.int .u8))]
 t:=⟨[(1,.c (.it .i64)),(2,.c (.it .i64)),(3,.c (.ptr 0 0)),(7,.c (.sl 1 0 1)),(8,.c (.it .i64))],[.st [.it .u8,.it .u8,.arr (.int .u8)] 1 0,.arr (.sl (.int .u8)) 0]⟩
 to:=fun v=>⟨v.1.1,v.1.2.1,v.1.2.2.2.1.1,v.1.2.2.2.1.2,v.1.2.2.2.2.1,v.2.1.1,v.2.1.2.1,v.2.1.2.2.1,v.2.2.1⟩
 fr:=fun x=>((x.n,(x.k,((),((x.out_lo,x.out_len),(x.i,()))))),((x.mr,(x.mc,(x.a,()))),(x.out,())))
structure q0X where
 out_lo:Nat
 out_len:Nat
 mr:Int
 mc:Int
 a:List (Int)
 out:List (List (Int))
def q0:Pt q0X where
 own:=[]
 t:=⟨[(7,.c (.sl 1 0 1))],[.st [.it .u8,.it .u8,.arr (.int .u8)] 1 0,.arr (.sl (.int .u8)) 0]⟩
 to:=fun v=>⟨v.1.1.1,v.1.1.2,v.2.1.1,v.2.1.2.1,v.2.1.2.2.1,v.2.2.1⟩
 fr:=fun x=>(((x.out_lo,x.out_len),()),((x.mr,(x.mc,(x.a,()))),(x.out,())))
def s0(x:p0X):Option (p0X⊕q0X):=bif decide (x.i<x.n) then Q0 (iter s1 ⟨x.n,x.k,x.out_lo,x.out_len,x.i,0,0,0,x.mr,x.mc,x.a,x.out,[]⟩) fun y=>bif eqN y.out_lo 0&&eqN y.out.length y.out_len&&QP (y.out_len+1) 24 then bif leB (y.row_lo+y.row_len) y.row.length&&true&&true then some (Sum.inl ⟨y.n,y.k,0,y.out_len+1,IntKind.i64.wrap (y.i+1),y.mr,y.mc,y.a,y.out++[List.take y.row_len (List.drop y.row_lo y.row)]⟩) else none else none else some (Sum.inr ⟨x.out_lo,x.out_len,x.mr,x.mc,x.a,x.out⟩)
theorem QV(x:p0X):exec E1 53 (C21.Q2 0) 1 (p0.R x) (p0.H x) (Qq 0 p0 (.exit 0) q0)=s0 x:=by kernel_rfl
def l0:QS:=Qr 0 p0 (.exit 0) q0 s0
theorem tl0:QI (C21.Q2 0) 1=[(1,C21.Q2 1)]:=by kernel_rfl
theorem QW  :QF Try.prog 53 none 0 (C21.Q2 0) l0:=QQ mixed (Q8 QC Q5 _) (by trivial) (fun _=>rfl) (fun _=>rfl) (tl0▸(QB.cons rfl Jb QB.nil)) QV
def E0:Env:=⟨ty,QL cl,JA [(0,l0),(1,l1)],none⟩
def m(x:gX):Option fY:=Q0 (iter s0 ⟨x.n,x.k,0,0,0,x.r,x.c,x.a,[]⟩) fun y=>bif leB (y.out_lo+y.out_len) y.out.length&&true&&true then some (List.take y.out_len (List.drop y.out_lo y.out)) else none
theorem QJ(x:gX):exec E0 53 C21 0 (QN 0 (g.A x)) (g.H x) (finish 0 ty [.tmp 6] f)=m x:=by kernel_rfl
theorem tl:QI C21 0=[(0,C21.Q2 0)]:=by kernel_rfl
theorem known:QM Try.prog 21 g f m:=
 Q9 mixed (Q8 QC Q5 _) s21 rfl rfl tl (QB.cons rfl QW QB.nil) (fun _ _=>⟨rfl,rfl⟩) (fun _ _=>⟨rfl,rfl⟩) QJ
def con:Con:=Qx g f m default
theorem Q1:QO Try.prog 21 con:=QE known (fun _=>rfl) rfl
end M21
namespace M20
structure gX where
 r:Int
 c:Int
 a:List (Int)
def g:Sg gX where
 vs:=[.agg [.it .u8,.it .u8,.arr (.int .u8)]]
 h:=[]
 to:=fun a b=>⟨a.1.1,a.1.2.1,a.1.2.2.1⟩
 fa:=fun x=>((x.r,(x.c,(x.a,()))),())
 fh:=fun x=>()
abbrev fY:=Int×Int
def f:Ft fY where
 ord:=none
 sh:=.tup [.inl (.it .i64),.inl (.it .i64)]
 h:=[]
 to:=fun a b=>(a.1,a.2.1)
 fv:=fun y=>(y.1,(y.2,()))
 fh:=fun y=>()
def cl:List (FuncId×Con):=[]
theorem Q5:QG Try.prog cl:=trivial
def E0:Env:=⟨ty,QL cl,fun _=>none,none⟩
def m(x:gX):Option fY:=some (IntKind.i64.wrap (x.r.tmod 10),IntKind.i64.wrap (x.c.tmod 140))
theorem QJ(x:gX):exec E0 12 C20 0 (QN 0 (g.A x)) (g.H x) (finish 0 ty [.tmp 2,.tmp 3] f)=m x:=by kernel_rfl
theorem tl:QI C20 0=[]:=by kernel_rfl
theorem known:QM Try.prog 20 g f m:=
 Q9 mixed (Q8 QC Q5 _) s20 rfl rfl tl QB.nil (fun _ _=>⟨rfl,rfl⟩) (fun _ _=>⟨rfl,rfl⟩) QJ
def con:Con:=Qx g f m default
theorem Q1:QO Try.prog 20 con:=QE known (fun _=>rfl) rfl
end M20
namespace M18
structure gX where
 l:List ((Int)×(Int)×List (Int))
def g:Sg gX where
 vs:=[.c (.arr (.pair (.int .u8) (.pair (.int .u8) (.sl (.int .u8)))))]
 h:=[]
 to:=fun a b=>⟨a.1⟩
 fa:=fun x=>(x.l,())
 fh:=fun x=>()
abbrev fY:=Bool
def f:Ft fY where
 ord:=none
 sh:=.c (.bo)
 h:=[]
 to:=fun a b=>(a)
 fv:=fun y=>y
 fh:=fun y=>()
def cl:List (FuncId×Con):=[]
theorem Q5:QG Try.prog cl:=trivial
def E1:Env:=⟨ty,QL cl,fun _=>none,none⟩
structure p0X where
 l:List ((Int)×(Int)×List (Int))
 i:Int
def p0:Pt p0X where
 own:=[]
 t:=⟨[(0,.c (.arr (.pair (.int .u8) (.pair (.int .u8) (.sl (.int .u8)))))),(3,.c (.it .i64))],[]⟩
 to:=fun v=>⟨v.1.1,v.1.2.1⟩
 fr:=fun x=>((x.l,(x.i,())),())
abbrev q0X:=Unit
def q0:Pt q0X where
 own:=[]
 t:=⟨[],[]⟩
 to:=fun v=>()
 fr:=fun x=>((),())
structure z0X where
 r:Bool
def z0:Pt z0X where
 own:=[]
 t:=⟨[(2,.c (.bo))],[]⟩
 to:=fun v=>⟨v.1.1⟩
 fr:=fun x=>((x.r,()),())
def s0(x:p0X):Option (p0X⊕(q0X⊕z0X)):=bif decide (x.i<(↑x.l.length:Int)) then bif inR x.i x.l.length then bif decide ((↑(List.length (x.l[x.i.toNat]?.getD (0,0,[])).2.2):Int)>200) then some (Sum.inr (Sum.inr ⟨false⟩)) else some (Sum.inl ⟨x.l,IntKind.i64.wrap (x.i+1)⟩) else none else some (Sum.inr (Sum.inl PUnit.unit))
theorem QV(x:p0X):exec E1 17 (C18.Q2 0) 1 (p0.R x) (p0.H x) (J3 0 p0 (.exit 0) q0 .ret z0)=s0 x:=by kernel_rfl
def l0:QS:=J4 0 p0 (.exit 0) q0 .ret z0 s0
theorem tl0:QI (C18.Q2 0) 1=[]:=by kernel_rfl
theorem QW  :QF Try.prog 17 none 0 (C18.Q2 0) l0:=Qc mixed (Q8 QC Q5 _) (by trivial) (by trivial) (fun _=>rfl) (fun _=>rfl) (fun _=>rfl) (tl0▸QB.nil) QV
def E0:Env:=⟨ty,QL cl,JA [(0,l0)],none⟩
def m(x:gX):Option fY:=Q0 (iter s0 ⟨x.l,0⟩) fun s=>J6 s (fun y=>some true) fun z=>some z.r
theorem QJ(x:gX):exec E0 17 C18 0 (QN 0 (g.A x)) (g.H x) (finish 0 ty [.tmp 2] f)=m x:=by kernel_rfl
theorem tl:QI C18 0=[(0,C18.Q2 0)]:=by kernel_rfl
theorem known:QM Try.prog 18 g f m:=
 Q9 mixed (Q8 QC Q5 _) s18 rfl rfl tl (QB.cons rfl QW QB.nil) (fun _ _=>⟨rfl,rfl⟩) (fun _ _=>⟨rfl,rfl⟩) QJ
def con:Con:=Qx g f m default
theorem Q1:QO Try.prog 18 con:=QE known (fun _=>rfl) rfl
end M18
namespace M23
structure gX where
 l:List (List (Int))
 c:Int
def g:Sg gX where
 vs:=[.c (.arr (.sl (.int .u8))),.c (.it .i64)]
 h:=[]
 to:=fun a b=>⟨a.1,a.2.1⟩
 fa:=fun x=>(x.l,(x.c,()))
 fh:=fun x=>()
abbrev fY:=Int×(List ((Int)×List (Int)))
def f:Ft fY where
 ord:=none
 sh:=.agg [.it .i64,.arr (.pair (.int .i64) (.sl (.int .u64)))]
 h:=[]
 to:=fun a b=>(a.1,a.2.1)
 fv:=fun y=>(y.1,(y.2,()))
 fh:=fun y=>()
def cl:List (FuncId×Con):=[(24,M24.con)]
theorem Q5:QG Try.prog cl:=⟨M24.Q1,trivial⟩
def E1:Env:=⟨ty,QL cl,fun _=>none,none⟩
structure p0X where
 l:List (List (Int))
 i:Int
 mc:Int
 mr_lo:Nat
 mr_len:Nat
 out:List ((Int)×List (Int))
def p0:Pt p0X where
 own:=[.cell 1 1 (.pair (.int .i64) (.sl (.int .u64)))]
 t:=⟨[(0,.c (.arr (.sl (.int .u8)))),(4,.c (.ptr 0 0)),(5,.c (.ptr 1 0)),(6,.c (.it .i64))],[.st [.junk,.junk] 1 0,.st [.it .i64,.sl 2 0 2] 1 0,.arr (.pair (.int .i64) (.sl (.int .u64))) 0]⟩
 to:=fun v=>⟨v.1.1,v.1.2.2.2.1,v.2.2.1.1,v.2.2.1.2.1.1,v.2.2.1.2.1.2,v.2.2.2.1⟩
 fr:=fun x=>((x.l,((),((),(x.i,())))),(((),((),())),((x.mc,((x.mr_lo,x.mr_len),())),(x.out,()))))
structure q0X where
 mc:Int
 mr_lo:Nat
 mr_len:Nat
 out:List ((Int)×List (Int))
def q0:Pt q0X where
 own:=[]
 t:=⟨[(4,.c (.ptr 0 0)),(5,.c (.ptr 1 0))],[.st [.junk,.junk] 1 0,.st [.it .i64,.sl 2 0 2] 1 0,.arr (.pair (.int .i64) (.sl (.int .u64))) 0]⟩
 to:=fun v=>⟨v.2.2.1.1,v.2.2.1.2.1.1,v.2.2.1.2.1.2,v.2.2.2.1⟩
 fr:=fun x=>(((),((),())),(((),((),())),((x.mc,((x.mr_lo,x.mr_len),())),(x.out,()))))
def s0(x:p0X):Option (p0X⊕q0X):=bif decide (x.i<(↑x.l.length:Int)) then bif inR x.i x.l.length then Q0 (M24.m ⟨x.l[x.i.toNat]?.getD []⟩) fun y=>bif eqN x.mr_lo 0&&eqN x.out.length x.mr_len&&QP (x.mr_len+1) 32 then some (Sum.inl ⟨x.l,IntKind.i64.wrap (x.i+1),x.mc,0,x.mr_len+1,x.out++[(y.1,y.2)]⟩) else none else none else some (Sum.inr ⟨x.mc,x.mr_lo,x.mr_len,x.out⟩)
theorem QV(x:p0X):exec E1 26 (C23.Q2 0) 1 (p0.R x) (p0.H x) (Qq 0 p0 (.exit 0) q0)=s0 x:=by kernel_rfl
def l0:QS:=Qr 0 p0 (.exit 0) q0 s0
theorem tl0:QI (C23.Q2 0) 1=[]:=by kernel_rfl
theorem QW  :QF Try.prog 26 none 0 (C23.Q2 0) l0:=QQ mixed (Q8 QC Q5 _) (by trivial) (fun _=>rfl) (fun _=>rfl) (tl0▸QB.nil) QV
def E0:Env:=⟨ty,QL cl,JA [(0,l0)],none⟩
def m(x:gX):Option fY:=Q0 (iter s0 ⟨x.l,0,x.c,0,0,[]⟩) fun y=>bif leB (y.mr_lo+y.mr_len) y.out.length&&true&&true&&true then some (y.mc,List.take y.mr_len (List.drop y.mr_lo y.out)) else none
theorem QJ(x:gX):exec E0 26 C23 0 (QN 0 (g.A x)) (g.H x) (finish 0 ty [.cell 4 40] f)=m x:=by kernel_rfl
theorem tl:QI C23 0=[(0,C23.Q2 0)]:=by kernel_rfl
theorem known:QM Try.prog 23 g f m:=
 Q9 mixed (Q8 QC Q5 _) s23 rfl rfl tl (QB.cons rfl QW QB.nil) (fun _ _=>⟨rfl,rfl⟩) (fun _ _=>⟨rfl,rfl⟩) QJ
def con:Con:=Qx g f m default
theorem Q1:QO Try.prog 23 con:=QE known (fun _=>rfl) rfl
end M23
namespace M78
structure gX where
 l:List (Int)
def g:Sg gX where
 vs:=[.c (.arr (.int .u8))]
 h:=[]
 to:=fun a b=>⟨a.1⟩
 fa:=fun x=>(x.l,())
 fh:=fun x=>()
abbrev fY:=List UInt8
def f:Ft fY where
 ord:=none
 sh:=.c (.sg)
 h:=[]
 to:=fun a b=>(a)
 fv:=fun y=>y
 fh:=fun y=>()
def cl:List (FuncId×Con):=[]
theorem Q5:QG Try.prog cl:=trivial
def E1:Env:=⟨ty,QL cl,fun _=>none,none⟩
structure p0X where
 l:List (Int)
 s:List UInt8
 i:Int
def p0:Pt p0X where
 own:=[]
 t:=⟨[(0,.c (.arr (.int .u8))),(3,.c (.sg)),(4,.c (.it .i64))],[]⟩
 to:=fun v=>⟨v.1.1,v.1.2.1,v.1.2.2.1⟩
 fr:=fun x=>((x.l,(x.s,(x.i,()))),())
structure q0X where
 s:List UInt8
def q0:Pt q0X where
 own:=[]
 t:=⟨[(3,.c (.sg))],[]⟩
 to:=fun v=>⟨v.1.1⟩
 fr:=fun x=>((x.s,()),())
def s0(x:p0X):Option (p0X⊕q0X):=bif decide (x.i<(↑x.l.length:Int)) then bif inR x.i x.l.length then bif leB (x.s.length+(utf (IntKind.u8.wrap (48+x.l[x.i.toNat]?.getD 0))).length) 9223372036854775807 then some (Sum.inl ⟨x.l,x.s++utf (IntKind.u8.wrap (48+x.l[x.i.toNat]?.getD 0)),IntKind.i64.wrap (x.i+1)⟩) else none else none else some (Sum.inr ⟨x.s⟩)
theorem QV(x:p0X):exec E1 20 (C78.Q2 0) 1 (p0.R x) (p0.H x) (Qq 0 p0 (.exit 0) q0)=s0 x:=by kernel_rfl
def l0:QS:=Qr 0 p0 (.exit 0) q0 s0
theorem tl0:QI (C78.Q2 0) 1=[]:=by kernel_rfl
theorem QW  :QF Try.prog 20 none 0 (C78.Q2 0) l0:=QQ mixed (Q8 QC Q5 _) (by trivial) (fun _=>rfl) (fun _=>rfl) (tl0▸QB.nil) QV
def E0:Env:=⟨ty,QL cl,JA [(0,l0)],none⟩
def m(x:gX):Option fY:=Q0 (iter s0 ⟨x.l,[],0⟩) fun y=>some y.s
theorem QJ(x:gX):exec E0 20 C78 0 (QN 0 (g.A x)) (g.H x) (finish 0 ty [.tmp 2] f)=m x:=by kernel_rfl
theorem tl:QI C78 0=[(0,C78.Q2 0)]:=by kernel_rfl
theorem known:QM Try.prog 78 g f m:=
 Q9 mixed (Q8 QC Q5 _) s78 rfl rfl tl (QB.cons rfl QW QB.nil) (fun _ _=>⟨rfl,rfl⟩) (fun _ _=>⟨rfl,rfl⟩) QJ
def con:Con:=Qx g f m default
theorem Q1:QO Try.prog 78 con:=QE known (fun _=>rfl) rfl
end M78
namespace M35
structure gX where
 a:List (Int)
 b:List (Int)
def g:Sg gX where
 vs:=[.c (.arr (.int .u8)),.c (.arr (.int .u8))]
 h:=[]
 to:=fun a b=>⟨a.1,a.2.1⟩
 fa:=fun x=>(x.a,(x.b,()))
 fh:=fun x=>()
abbrev fY:=Int
def f:Ft fY where
 ord:=none
 sh:=.c (.it .u8)
 h:=[]
 to:=fun a b=>(a)
 fv:=fun y=>y
 fh:=fun y=>()
def cl:List (FuncId×Con):=[]
theorem Q5:QG Try.prog cl:=trivial
def E1:Env:=⟨ty,QL cl,fun _=>none,none⟩
structure p0X where
 a:List (Int)
 b:List (Int)
 n:Int
 i:Int
def p0:Pt p0X where
 own:=[]
 t:=⟨[(0,.c (.arr (.int .u8))),(1,.c (.arr (.int .u8))),(5,.c (.it .u8)),(6,.c (.it .i64))],[]⟩
 to:=fun v=>⟨v.1.1,v.1.2.1,v.1.2.2.1,v.1.2.2.2.1⟩
 fr:=fun x=>((x.a,(x.b,(x.n,(x.i,())))),())
structure q0X where
 n:Int
def q0:Pt q0X where
 own:=[]
 t:=⟨[(5,.c (.it .u8))],[]⟩
 to:=fun v=>⟨v.1.1⟩
 fr:=fun x=>((x.n,()),())
def s0(x:p0X):Option (p0X⊕q0X):=bif decide (x.i<(↑x.a.length:Int)) then bif inR x.i x.a.length then bif inR x.i x.b.length then some (Sum.inl ⟨x.a,x.b,IntKind.u8.wrap (↑(BitVec.ofInt 8 x.n^^^BitVec.ofInt 8 (IntKind.u8.wrap (↑(BitVec.ofInt 8 (x.a[x.i.toNat]?.getD 0)&&&BitVec.ofInt 8 (x.b[x.i.toNat]?.getD 0)).toNat:Int))).toNat:Int),IntKind.i64.wrap (x.i+1)⟩) else none else none else some (Sum.inr ⟨x.n⟩)
theorem QV(x:p0X):exec E1 25 (C35.Q2 0) 1 (p0.R x) (p0.H x) (Qq 0 p0 (.exit 0) q0)=s0 x:=by kernel_rfl
def l0:QS:=Qr 0 p0 (.exit 0) q0 s0
theorem tl0:QI (C35.Q2 0) 1=[]:=by kernel_rfl
theorem QW  :QF Try.prog 25 none 0 (C35.Q2 0) l0:=QQ mixed (Q8 QC Q5 _) (by trivial) (fun _=>rfl) (fun _=>rfl) (tl0▸QB.nil) QV
def E0:Env:=⟨ty,QL cl,JA [(0,l0)],none⟩
def m(x:gX):Option fY:=Q0 (iter s0 ⟨x.a,x.b,0,0⟩) fun y=>some y.n
theorem QJ(x:gX):exec E0 25 C35 0 (QN 0 (g.A x)) (g.H x) (finish 0 ty [.tmp 4] f)=m x:=by kernel_rfl
theorem tl:QI C35 0=[(0,C35.Q2 0)]:=by kernel_rfl
theorem known:QM Try.prog 35 g f m:=
 Q9 mixed (Q8 QC Q5 _) s35 rfl rfl tl (QB.cons rfl QW QB.nil) (fun _ _=>⟨rfl,rfl⟩) (fun _ _=>⟨rfl,rfl⟩) QJ
def con:Con:=Qx g f m default
theorem Q1:QO Try.prog 35 con:=QE known (fun _=>rfl) rfl
end M35
namespace M44
structure gX where
 m:List (List (Int))
 v:List (Int)
def g:Sg gX where
 vs:=[.c (.arr (.sl (.int .u8))),.c (.arr (.int .u8))]
 h:=[]
 to:=fun a b=>⟨a.1,a.2.1⟩
 fa:=fun x=>(x.m,(x.v,()))
 fh:=fun x=>()
abbrev fY:=List (Int)
def f:Ft fY where
 ord:=none
 sh:=.c (.arr (.int .u8))
 h:=[]
 to:=fun a b=>(a)
 fv:=fun y=>y
 fh:=fun y=>()
def cl:List (FuncId×Con):=[(35,M35.con)]
theorem Q5:QG Try.prog cl:=⟨M35.Q1,trivial⟩
def E1:Env:=⟨ty,QL cl,fun _=>none,none⟩
structure p0X where
 m:List (List (Int))
 v:List (Int)
 out_lo:Nat
 out_len:Nat
 i:Int
 xs:List (Int)
def p0:Pt p0X where
 own:=[.reg 5 (.int .u8)]
 t:=⟨[(0,.c (.arr (.sl (.int .u8)))),(1,.c (.arr (.int .u8))),(5,.c (.sl 0 0 1)),(6,.c (.it .i64))],[.arr (.int .u8) 0]⟩
 to:=fun v=>⟨v.1.1,v.1.2.1,v.1.2.2.1.1,v.1.2.2.1.2,v.1.2.2.2.1,v.2.1⟩
 fr:=fun x=>((x.m,(x.v,((x.out_lo,x.out_len),(x.i,())))),(x.xs,()))
structure q0X where
 out_lo:Nat
 out_len:Nat
 xs:List (Int)
def q0:Pt q0X where
 own:=[]
 t:=⟨[(5,.c (.sl 0 0 1))],[.arr (.int .u8) 0]⟩
 to:=fun v=>⟨v.1.1.1,v.1.1.2,v.2.1⟩
 fr:=fun x=>(((x.out_lo,x.out_len),()),(x.xs,()))
def s0(x:p0X):Option (p0X⊕q0X):=bif decide (x.i<(↑x.m.length:Int)) then bif inR x.i x.m.length then Q0 (M35.m ⟨x.m[x.i.toNat]?.getD [],x.v⟩) fun y=>bif eqN x.out_lo 0&&eqN x.xs.length x.out_len&&QP (x.out_len+1) 1 then some (Sum.inl ⟨x.m,x.v,0,x.out_len+1,IntKind.i64.wrap (x.i+1),x.xs++[y]⟩) else none else none else some (Sum.inr ⟨x.out_lo,x.out_len,x.xs⟩)
theorem QV(x:p0X):exec E1 23 (C44.Q2 0) 1 (p0.R x) (p0.H x) (Qq 0 p0 (.exit 0) q0)=s0 x:=by kernel_rfl
def l0:QS:=Qr 0 p0 (.exit 0) q0 s0
theorem tl0:QI (C44.Q2 0) 1=[]:=by kernel_rfl
theorem QW  :QF Try.prog 23 none 0 (C44.Q2 0) l0:=QQ mixed (Q8 QC Q5 _) (by trivial) (fun _=>rfl) (fun _=>rfl) (tl0▸QB.nil) QV
def E0:Env:=⟨ty,QL cl,JA [(0,l0)],none⟩
def m(x:gX):Option fY:=Q0 (iter s0 ⟨x.m,x.v,0,0,0,[]⟩) fun y=>bif leB (y.out_lo+y.out_len) y.xs.length&&true&&true then some (List.take y.out_len (List.drop y.out_lo y.xs)) else none
theorem QJ(x:gX):exec E0 23 C44 0 (QN 0 (g.A x)) (g.H x) (finish 0 ty [.tmp 4] f)=m x:=by kernel_rfl
theorem tl:QI C44 0=[(0,C44.Q2 0)]:=by kernel_rfl
theorem known:QM Try.prog 44 g f m:=
 Q9 mixed (Q8 QC Q5 _) s44 rfl rfl tl (QB.cons rfl QW QB.nil) (fun _ _=>⟨rfl,rfl⟩) (fun _ _=>⟨rfl,rfl⟩) QJ
def con:Con:=Qx g f m default
theorem Q1:QO Try.prog 44 con:=QE known (fun _=>rfl) rfl
end M44
namespace M43
structure gX where
 m:List (List (Int))
 c:Int
def g:Sg gX where
 vs:=[.c (.arr (.sl (.int .u8))),.c (.it .i64)]
 h:=[]
 to:=fun a b=>⟨a.1,a.2.1⟩
 fa:=fun x=>(x.m,(x.c,()))
 fh:=fun x=>()
abbrev fY:=List (List (Int))
def f:Ft fY where
 ord:=none
 sh:=.c (.arr (.sl (.int .u8)))
 h:=[]
 to:=fun a b=>(a)
 fv:=fun y=>y
 fh:=fun y=>()
def cl:List (FuncId×Con):=[]
theorem Q5:QG Try.prog cl:=trivial
def E2:Env:=⟨ty,QL cl,fun _=>none,none⟩
structure p1X where
 m:List (List (Int))
 c:Int
 out_lo:Nat
 out_len:Nat
 k:Int
 row_lo:Nat
 row_len:Nat
 i:Int
 out:List (List (Int))
 row:List (Int)
def p1:Pt p1X where
 own:=[.reg 7 (.int .u8)]
 t:=⟨[(0,.c (.arr (.sl (.int .u8)))),(1,.c (.it .i64)),(5,.c (.sl 0 0 1)),(6,.c (.it .i64)),(7,.c (.sl 1 0 1)),(8,.c (.it .i64))],[.arr (.sl (.int .u8)) 0,.arr (.int .u8) 0]⟩
 to:=fun v=>⟨v.1.1,v.1.2.1,v.1.2.2.1.1,v.1.2.2.1.2,v.1.2.2.2.1,v.1.2.2.2.2.1.1,v.1.2.2.2.2.1.2,v.1.2.2.2.2.2.1,v.2.1,v.2.2.1⟩
 fr:=fun x=>((x.m,(x.c,((x.out_lo,x.out_len),(x.k,((x.row_lo,x.row_len),(x.i,())))))),(x.out,(x.row,())))
structure q1X where
 m:List (List (Int))
 c:Int
 out_lo:Nat
 out_len:Nat
 k:Int
 row_lo:Nat
 row_len:Nat
 out:List (List (Int))
 row:List (Int)
def q1:Pt q1X where
 own:=[]
 t:=⟨[(0,.c (.arr (.sl (.int .u8)))),(1,.c (.it .i64)),(5,.c (.sl 0 0 1)),(6,.c (.it .i64)),(7,.c (.sl 1 0 1))],[.arr (.sl (.int .u8)) 0,.arr (.int .u8) 0]⟩
 to:=fun v=>⟨v.1.1,v.1.2.1,v.1.2.2.1.1,v.1.2.2.1.2,v.1.2.2.2.1,v.1.2.2.2.2.1.1,v.1.2.2.2.2.1.2,v.2.1,v.2.2.1⟩
 fr:=fun x=>((x.m,(x.c,((x.out_lo,x.out_len),(x.k,((x.row_lo,x.row_len),()))))),(x.out,(x.row,())))
def s1(x:p1X):Option (p1X⊕q1X):=bif decide (x.i<(↑x.m.length:Int)) then bif inR x.i x.m.length then bif inR x.k (List.length (x.m[x.i.toNat]?.getD [])) then bif eqN x.row_lo 0&&eqN x.row.length x.row_len&&QP (x.row_len+1) 1 then some (Sum.inl ⟨x.m,x.c,x.out_lo,x.out_len,x.k,0,x.row_len+1,IntKind.i64.wrap (x.i+1),x.out,x.row++[(x.m[x.i.toNat]?.getD [])[x.k.toNat]?.getD 0]⟩) else none else none else none else some (Sum.inr ⟨x.m,x.c,x.out_lo,x.out_len,x.k,x.row_lo,x.row_len,x.out,x.row⟩)
theorem JZ(x:p1X):exec E2 35 (C43.Q2 1) 2 (p1.R x) (p1.H x) (Qq 0 p1 (.exit 2) q1)=s1 x:=by kernel_rfl
def l1:QS:=Qr 0 p1 (.exit 2) q1 s1
theorem tl1:QI (C43.Q2 1) 2=[]:=by kernel_rfl
theorem Jb  :QF Try.prog 35 none 0 (C43.Q2 1) l1:=QQ mixed (Q8 QC Q5 _) (by trivial) (fun _=>rfl) (fun _=>rfl) (tl1▸QB.nil) JZ
def E1:Env:=⟨ty,QL cl,JA [(1,l1)],none⟩
structure p0X where
 m:List (List (Int))
 c:Int
 out_lo:Nat
 out_len:Nat
 k:Int
 out:List (List (Int))
def p0:Pt p0X where
 own:=[.reg 5 (.sl (.int .u8))]
 t:=⟨[(0,.c (.arr (.sl (.int .u8)))),(1,.c (.it .i64)),(5,.c (.sl 0 0 1)),(6,.c (.it .i64))],[.arr (.sl (.int .u8)) 0]⟩
 to:=fun v=>⟨v.1.1,v.1.2.1,v.1.2.2.1.1,v.1.2.2.1.2,v.1.2.2.2.1,v.2.1⟩
 fr:=fun x=>((x.m,(x.c,((x.out_lo,x.out_len),(x.k,())))),(x.out,()))
structure q0X where
 out_lo:Nat
 out_len:Nat
 out:List (List (Int))
def q0:Pt q0X where
 own:=[]
 t:=⟨[(5,.c (.sl 0 0 1))],[.arr (.sl (.int .u8)) 0]⟩
 to:=fun v=>⟨v.1.1.1,v.1.1.2,v.2.1⟩
 fr:=fun x=>(((x.out_lo,x.out_len),()),(x.out,()))
def s0(x:p0X):Option (p0X⊕q0X):=bif decide (x.k<x.c) then Q0 (iter s1 ⟨x.m,x.c,x.out_lo,x.out_len,x.k,0,0,0,x.out,[]⟩) fun y=>bif eqN y.out_lo 0&&eqN y.out.length y.out_len&&QP (y.out_len+1) 24 then bif leB (y.row_lo+y.row_len) y.row.length&&true&&true then some (Sum.inl ⟨y.m,y.c,0,y.out_len+1,IntKind.i64.wrap (y.k+1),y.out++[List.take y.row_len (List.drop y.row_lo y.row)]⟩) else none else none else some (Sum.inr ⟨x.out_lo,x.out_len,x.out⟩)
theorem QV(x:p0X):exec E1 35 (C43.Q2 0) 1 (p0.R x) (p0.H x) (Qq 0 p0 (.exit 0) q0)=s0 x:=by kernel_rfl
def l0:QS:=Qr 0 p0 (.exit 0) q0 s0
theorem tl0:QI (C43.Q2 0) 1=[(1,C43.Q2 1)]:=by kernel_rfl
theorem QW  :QF Try.prog 35 none 0 (C43.Q2 0) l0:=QQ mixed (Q8 QC Q5 _) (by trivial) (fun _=>rfl) (fun _=>rfl) (tl0▸(QB.cons rfl Jb QB.nil)) QV
def E0:Env:=⟨ty,QL cl,JA [(0,l0),(1,l1)],none⟩
def m(x:gX):Option fY:=Q0 (iter s0 ⟨x.m,x.c,0,0,0,[]⟩) fun y=>bif leB (y.out_lo+y.out_len) y.out.length&&true&&true then some (List.take y.out_len (List.drop y.out_lo y.out)) else none
theorem QJ(x:gX):exec E0 35 C43 0 (QN 0 (g.A x)) (g.H x) (finish 0 ty [.tmp 4] f)=m x:=by kernel_rfl
theorem tl:QI C43 0=[(0,C43.Q2 0)]:=by kernel_rfl
theorem known:QM Try.prog 43 g f m:=
 Q9 mixed (Q8 QC Q5 _) s43 rfl rfl tl (QB.cons rfl QW QB.nil) (fun _ _=>⟨rfl,rfl⟩) (fun _ _=>⟨rfl,rfl⟩) QJ
def con:Con:=Qx g f m default
theorem Q1:QO Try.prog 43 con:=QE known (fun _=>rfl) rfl
end M43
namespace M42
structure gX where
 a:List (List (Int))
 b:List (List (Int))
 c:Int
def g:Sg gX where
 vs:=[.c (.arr (.sl (.int .u8))),.c (.arr (.sl (.int .u8))),.c (.it .i64)]
 h:=[]
 to:=fun a b=>⟨a.1,a.2.1,a.2.2.1⟩
 fa:=fun x=>(x.a,(x.b,(x.c,())))
 fh:=fun x=>()
abbrev fY:=List (List (Int))
def f:Ft fY where
 ord:=none
 sh:=.c (.arr (.sl (.int .u8)))
 h:=[]
 to:=fun a b=>(a)
 fv:=fun y=>y
 fh:=fun y=>()
def cl:List (FuncId×Con):=[(43,M43.con),(44,M44.con)]
theorem Q5:QG Try.prog cl:=⟨M43.Q1,M44.Q1,trivial⟩
def E1:Env:=⟨ty,QL cl,fun _=>none,none⟩
structure p0X where
 a:List (List (Int))
 out_lo:Nat
 out_len:Nat
 t:List (List (Int))
 i:Int
 out:List (List (Int))
def p0:Pt p0X where
 own:=[.reg 7 (.sl (.int .u8))]
 t:=⟨[(0,.c (.arr (.sl (.int .u8)))),(7,.c (.sl 0 0 1)),(8,.c (.arr (.sl (.int .u8)))),(9,.c (.it .i64))],[.arr (.sl (.int .u8)) 0]⟩
 to:=fun v=>⟨v.1.1,v.1.2.1.1,v.1.2.1.2,v.1.2.2.1,v.1.2.2.2.1,v.2.1⟩
 fr:=fun x=>((x.a,((x.out_lo,x.out_len),(x.t,(x.i,())))),(x.out,()))
structure q0X where
 out_lo:Nat
 out_len:Nat
 out:List (List (Int))
def q0:Pt q0X where
 own:=[]
 t:=⟨[(7,.c (.sl 0 0 1))],[.arr (.sl (.int .u8)) 0]⟩
 to:=fun v=>⟨v.1.1.1,v.1.1.2,v.2.1⟩
 fr:=fun x=>(((x.out_lo,x.out_len),()),(x.out,()))
def s0(x:p0X):Option (p0X⊕q0X):=bif decide (x.i<(↑x.a.length:Int)) then bif inR x.i x.a.length then Q0 (M44.m ⟨x.t,x.a[x.i.toNat]?.getD []⟩) fun y=>bif eqN x.out_lo 0&&eqN x.out.length x.out_len&&QP (x.out_len+1) 24 then some (Sum.inl ⟨x.a,0,x.out_len+1,x.t,IntKind.i64.wrap (x.i+1),x.out++[y]⟩) else none else none else some (Sum.inr ⟨x.out_lo,x.out_len,x.out⟩)
theorem QV(x:p0X):exec E1 29 (C42.Q2 0) 1 (p0.R x) (p0.H x) (Qq 0 p0 (.exit 0) q0)=s0 x:=by kernel_rfl
def l0:QS:=Qr 0 p0 (.exit 0) q0 s0
theorem tl0:QI (C42.Q2 0) 1=[]:=by kernel_rfl
theorem QW  :QF Try.prog 29 none 0 (C42.Q2 0) l0:=QQ mixed (Q8 QC Q5 _) (by trivial) (fun _=>rfl) (fun _=>rfl) (tl0▸QB.nil) QV
def E0:Env:=⟨ty,QL cl,JA [(0,l0)],none⟩
def m(x:gX):Option fY:=Q0 (M43.m ⟨x.b,x.c⟩) fun y=>Q0 (iter s0 ⟨x.a,0,0,y,0,[]⟩) fun y=>bif leB (y.out_lo+y.out_len) y.out.length&&true&&true then some (List.take y.out_len (List.drop y.out_lo y.out)) else none
theorem QJ(x:gX):exec E0 29 C42 0 (QN 0 (g.A x)) (g.H x) (finish 0 ty [.tmp 6] f)=m x:=by kernel_rfl
theorem tl:QI C42 0=[(0,C42.Q2 0)]:=by kernel_rfl
theorem known:QM Try.prog 42 g f m:=
 Q9 mixed (Q8 QC Q5 _) s42 rfl rfl tl (QB.cons rfl QW QB.nil) (fun _ _=>⟨rfl,rfl⟩) (fun _ _=>⟨rfl,rfl⟩) QJ
def con:Con:=Qx g f m default
theorem Q1:QO Try.prog 42 con:=QE known (fun _=>rfl) rfl
end M42
end Go.Proofs.Ytddaobhpffpmoaa
namespace Go.Proofs.Ytddaobhpffpmoaa
open Go.Abs
set_option maxRecDepth 100000
namespace M39
structure gX where
 ac:Int
 ar:List ((Int)×List (Int))
 bc:Int
 br:List ((Int)×List (Int))
def g:Sg gX where
 vs:=[.agg [.it .i64,.arr (.pair (.int .i64) (.sl (.int .u64)))],.agg [.it .i64,.arr (.pair (.int .i64) (.sl (.int .u64)))]]
 h:=[]
 to:=fun a b=>⟨a.1.1,a.1.2.1,a.2.1.1,a.2.1.2.1⟩
 fa:=fun x=>((x.ac,(x.ar,())),((x.bc,(x.br,())),()))
 fh:=fun x=>()
abbrev fY:=Int×(List ((Int)×List (Int)))×Int
def f:Ft fY where
 ord:=none
 sh:=.tup [.inr [.it .i64,.arr (.pair (.int .i64) (.sl (.int .u64)))],.inl (.it .i64)]
 h:=[]
 to:=fun a b=>(a.1.1,a.1.2.1,a.2.1)
 fv:=fun y=>((y.1,(y.2.1,())),(y.2.2,()))
 fh:=fun y=>()
def cl:List (FuncId×Con):=[(50,M50.con),(73,M73.con),(74,M74.con),(80,M80.con)]
theorem Q5:QG Try.prog cl:=⟨M50.Q1,M73.Q1,M74.Q1,M80.Q1,trivial⟩
def E3:Env:=⟨ty,QL cl,fun _=>none,none⟩
structure p2X where
 i0:Int
 l:List ((Int)×List (Int))
 k:Int
 i:Int
 l2:List ((Int)×List (Int))
 k2:Int
 i2:Int
 ac:Int
 ar:List ((Int)×List (Int))
 bc:Int
 br:List ((Int)×List (Int))
 out:List ((Int)×List (Int))
 oc:Int
 or__lo:Nat
 or__len:Nat
 or__cap:Nat
 xn:Int
 xw:List (Int)
def p2:Pt p2X where
 own:=[]
 t:=⟨[(2,.c (.ptr 0 0)),(3,.c (.ptr 1 0)),(4,.c (.ptr 2 0)),(9,.c (.ptr 4 0)),(10,.c (.it .i64)),(11,.c (.ptr 5 0)),(44,.c (.arr (.pair (.int .i64) (.sl (.int .u64))))),(45,.c (.it .i64)),(46,.c (.it .i64)),(59,.c (.arr (.pair (.int .i64) (.sl (.int .u64))))),(60,.c (.it .i64)),(61,.c (.it .i64))],[.st [.it .i64,.arr (.pair (.int .i64) (.sl (.int .u64)))] 1 0,.st [.it .i64,.arr (.pair (.int .i64) (.sl (.int .u64)))] 1 0,.st [.junk,.junk] 1 0,.arr (.pair (.int .i64) (.sl (.int .u64))) 0,.st [.it .i64,.slc 3 0 2] 1 0,.st [.it .i64,.arr (.int .u64)] 1 0]⟩
 to:=fun v=>⟨v.1.2.2.2.2.1,v.1.2.2.2.2.2.2.1,v.1.2.2.2.2.2.2.2.1,v.1.2.2.2.2.2.2.2.2.1,v.1.2.2.2.2.2.2.2.2.2.1,v.1.2.2.2.2.2.2.2.2.2.2.1,v.1.2.2.2.2.2.2.2.2.2.2.2.1,v.2.1.1,v.2.1.2.1,v.2.2.1.1,v.2.2.1.2.1,v.2.2.2.2.1,v.2.2.2.2.2.1.1,v.2.2.2.2.2.1.2.1.1,v.2.2.2.2.2.1.2.1.2.1,v.2.2.2.2.2.1.2.1.2.2,v.2.2.2.2.2.2.1.1,v.2.2.2.2.2.2.1.2.1⟩
 fr:=fun x=>(((),((),((),((),(x.i0,((),(x.l,(x.k,(x.i,(x.l2,(x.k2,(x.i2,())))))))))))),((x.ac,(x.ar,())),((x.bc,(x.br,())),(((),((),())),(x.out,((x.oc,((x.or__lo,x.or__len,x.or__cap),())),((x.xn,(x.xw,())),())))))))
structure q2X where
 l:List ((Int)×List (Int))
 k:Int
 i:Int
 ac:Int
 ar:List ((Int)×List (Int))
 bc:Int
 br:List ((Int)×List (Int))
 out:List ((Int)×List (Int))
 oc:Int
 or__lo:Nat
 or__len:Nat
 or__cap:Nat
def q2:Pt q2X where
 own:=[]
 t:=⟨[(2,.c (.ptr 0 0)),(3,.c (.ptr 1 0)),(4,.c (.ptr 2 0)),(9,.c (.ptr 4 0)),(44,.c (.arr (.pair (.int .i64) (.sl (.int .u64))))),(45,.c (.it .i64)),(46,.c (.it .i64))],[.st [.it .i64,.arr (.pair (.int .i64) (.sl (.int .u64)))] 1 0,.st [.it .i64,.arr (.pair (.int .i64) (.sl (.int .u64)))] 1 0,.st [.junk,.junk] 1 0,.arr (.pair (.int .i64) (.sl (.int .u64))) 0,.st [.it .i64,.slc 3 0 2] 1 0]⟩
 to:=fun v=>⟨v.1.2.2.2.2.1,v.1.2.2.2.2.2.1,v.1.2.2.2.2.2.2.1,v.2.1.1,v.2.1.2.1,v.2.2.1.1,v.2.2.1.2.1,v.2.2.2.2.1,v.2.2.2.2.2.1.1,v.2.2.2.2.2.1.2.1.1,v.2.2.2.2.2.1.2.1.2.1,v.2.2.2.2.2.1.2.1.2.2⟩
 fr:=fun x=>(((),((),((),((),(x.l,(x.k,(x.i,()))))))),((x.ac,(x.ar,())),((x.bc,(x.br,())),(((),((),())),(x.out,((x.oc,((x.or__lo,x.or__len,x.or__cap),())),()))))))
def s2(x:p2X):Option (p2X⊕q2X):=bif decide (x.i2<x.k2) then bif inR x.i2 x.l2.length then Q0 (M74.m ⟨x.xn,x.xw,x.i2⟩) fun y=>bif y then bif inR x.i0 x.or__len then bif decide (x.or__lo+x.i0.toNat<x.out.length) then Q0 (M80.m ⟨(x.out[x.or__lo+x.i0.toNat]?.getD (0,[])).1,(x.out[x.or__lo+x.i0.toNat]?.getD (0,[])).2,(x.l2[x.i2.toNat]?.getD (0,[])).1,(x.l2[x.i2.toNat]?.getD (0,[])).2⟩) fun y=>bif inR x.i0 x.or__len then bif decide (x.or__lo+x.i0.toNat<x.out.length) then some (Sum.inl ⟨x.i0,x.l,x.k,x.i,x.l2,x.k2,IntKind.i64.wrap (x.i2+1),x.ac,x.ar,x.bc,x.br,x.out.set (x.or__lo+x.i0.toNat) (y.1,y.2),x.oc,x.or__lo,x.or__len,x.or__cap,x.xn,x.xw⟩) else none else none else none else none else some (Sum.inl ⟨x.i0,x.l,x.k,x.i,x.l2,x.k2,IntKind.i64.wrap (x.i2+1),x.ac,x.ar,x.bc,x.br,x.out,x.oc,x.or__lo,x.or__len,x.or__cap,x.xn,x.xw⟩) else none else some (Sum.inr ⟨x.l,x.k,x.i,x.ac,x.ar,x.bc,x.br,x.out,x.oc,x.or__lo,x.or__len,x.or__cap⟩)
theorem s2_eq(x:p2X):exec E3 83 (C39.Q2 2) 3 (p2.R x) (p2.H x) (Qq 0 p2 (.exit 4) q2)=s2 x:=by kernel_rfl
def l2:QS:=Qr 0 p2 (.exit 4) q2 s2
theorem tl2:QI (C39.Q2 2) 3=[]:=by kernel_rfl
theorem l2_ok  :QF Try.prog 83 none 0 (C39.Q2 2) l2:=QQ mixed (Q8 QC Q5 _) (by trivial) (fun _=>rfl) (fun _=>rfl) (tl2▸QB.nil) s2_eq
def E2:Env:=⟨ty,QL cl,JA [(2,l2)],none⟩
structure p1X where
 l:List ((Int)×List (Int))
 k:Int
 i:Int
 ac:Int
 ar:List ((Int)×List (Int))
 bc:Int
 br:List ((Int)×List (Int))
 out:List ((Int)×List (Int))
 oc:Int
 or__lo:Nat
 or__len:Nat
 or__cap:Nat
def p1:Pt p1X where
 own:=[]
 t:=⟨[(2,.c (.ptr 0 0)),(3,.c (.ptr 1 0)),(4,.c (.ptr 2 0)),(9,.c (.ptr 4 0)),(44,.c (.arr (.pair (.int .i64) (.sl (.int .u64))))),(45,.c (.it .i64)),(46,.c (.it .i64))],[.st [.it .i64,.arr (.pair (.int .i64) (.sl (.int .u64)))] 1 0,.st [.it .i64,.arr (.pair (.int .i64) (.sl (.int .u64)))] 1 0,.st [.junk,.junk] 1 0,.arr (.pair (.int .i64) (.sl (.int .u64))) 0,.st [.it .i64,.slc 3 0 2] 1 0]⟩
 to:=fun v=>⟨v.1.2.2.2.2.1,v.1.2.2.2.2.2.1,v.1.2.2.2.2.2.2.1,v.2.1.1,v.2.1.2.1,v.2.2.1.1,v.2.2.1.2.1,v.2.2.2.2.1,v.2.2.2.2.2.1.1,v.2.2.2.2.2.1.2.1.1,v.2.2.2.2.2.1.2.1.2.1,v.2.2.2.2.2.1.2.1.2.2⟩
 fr:=fun x=>(((),((),((),((),(x.l,(x.k,(x.i,()))))))),((x.ac,(x.ar,())),((x.bc,(x.br,())),(((),((),())),(x.out,((x.oc,((x.or__lo,x.or__len,x.or__cap),())),()))))))
structure q1X where
 ac:Int
 ar:List ((Int)×List (Int))
 bc:Int
 br:List ((Int)×List (Int))
 out:List ((Int)×List (Int))
 oc:Int
 or__lo:Nat
 or__len:Nat
 or__cap:Nat
def q1:Pt q1X where
 own:=[]
 t:=⟨[(4,.c (.ptr 2 0)),(9,.c (.ptr 4 0))],[.st [.it .i64,.arr (.pair (.int .i64) (.sl (.int .u64)))] 1 0,.st [.it .i64,.arr (.pair (.int .i64) (.sl (.int .u64)))] 1 0,.st [.junk,.junk] 1 0,.arr (.pair (.int .i64) (.sl (.int .u64))) 0,.st [.it .i64,.slc 3 0 2] 1 0]⟩
 to:=fun v=>⟨v.2.1.1,v.2.1.2.1,v.2.2.1.1,v.2.2.1.2.1,v.2.2.2.2.1,v.2.2.2.2.2.1.1,v.2.2.2.2.2.1.2.1.1,v.2.2.2.2.2.1.2.1.2.1,v.2.2.2.2.2.1.2.1.2.2⟩
 fr:=fun x=>(((),((),())),((x.ac,(x.ar,())),((x.bc,(x.br,())),(((),((),())),(x.out,((x.oc,((x.or__lo,x.or__len,x.or__cap),())),()))))))
def s1(x:p1X):Option (p1X⊕q1X):=bif decide (x.i<x.k) then bif inR x.i x.l.length then Q0 (M73.m ⟨x.bc⟩) fun y=>bif inR x.i x.or__len then bif decide (x.or__lo+x.i.toNat<x.out.length) then bif leB (y.2.1+y.2.2.1) y.2.2.2.2.length&&true&&true then Q0 (iter s2 ⟨x.i,x.l,x.k,x.i,x.br,(↑x.br.length:Int),0,x.ac,x.ar,x.bc,x.br,List.take (x.or__lo+x.i.toNat) x.out++(y.1,List.take y.2.2.1 (List.drop y.2.1 y.2.2.2.2))::List.drop (x.or__lo+x.i.toNat+1) x.out,x.oc,x.or__lo,x.or__len,x.or__cap,(x.l[x.i.toNat]?.getD (0,[])).1,(x.l[x.i.toNat]?.getD (0,[])).2⟩) fun y=>some (Sum.inl ⟨y.l,y.k,IntKind.i64.wrap (y.i+1),y.ac,y.ar,y.bc,y.br,y.out,y.oc,y.or__lo,y.or__len,y.or__cap⟩) else none else none else none else none else some (Sum.inr ⟨x.ac,x.ar,x.bc,x.br,x.out,x.oc,x.or__lo,x.or__len,x.or__cap⟩)
theorem JZ(x:p1X):exec E2 83 (C39.Q2 1) 2 (p1.R x) (p1.H x) (Qq 0 p1 (.exit 2) q1)=s1 x:=by kernel_rfl
def l1:QS:=Qr 0 p1 (.exit 2) q1 s1
theorem tl1:QI (C39.Q2 1) 2=[(2,C39.Q2 2)]:=by kernel_rfl
theorem Jb  :QF Try.prog 83 none 0 (C39.Q2 1) l1:=QQ mixed (Q8 QC Q5 _) (by trivial) (fun _=>rfl) (fun _=>rfl) (tl1▸(QB.cons rfl l2_ok QB.nil)) JZ
def E1:Env:=⟨ty,QL cl,JA [(1,l1),(2,l2)],none⟩
structure p0X where
 l:List ((Int)×List ((Int)×List (Int)))
 k:Int
 i:Int
 ac:Int
 ar:List ((Int)×List (Int))
 bc:Int
 br:List ((Int)×List (Int))
def p0:Pt p0X where
 own:=[]
 t:=⟨[(2,.c (.ptr 0 0)),(3,.c (.ptr 1 0)),(4,.c (.ptr 2 0)),(16,.c (.arr (.pair (.int .i64) (.sl (.pair (.int .i64) (.sl (.int .u64))))))),(17,.c (.it .i64)),(18,.c (.it .i64))],[.st [.it .i64,.arr (.pair (.int .i64) (.sl (.int .u64)))] 1 0,.st [.it .i64,.arr (.pair (.int .i64) (.sl (.int .u64)))] 1 0,.st [.junk,.junk] 1 0]⟩
 to:=fun v=>⟨v.1.2.2.2.1,v.1.2.2.2.2.1,v.1.2.2.2.2.2.1,v.2.1.1,v.2.1.2.1,v.2.2.1.1,v.2.2.1.2.1⟩
 fr:=fun x=>(((),((),((),(x.l,(x.k,(x.i,())))))),((x.ac,(x.ar,())),((x.bc,(x.br,())),(((),((),())),()))))
structure q0X where
 ac:Int
 ar:List ((Int)×List (Int))
 bc:Int
 br:List ((Int)×List (Int))
def q0:Pt q0X where
 own:=[]
 t:=⟨[(2,.c (.ptr 0 0)),(3,.c (.ptr 1 0)),(4,.c (.ptr 2 0))],[.st [.it .i64,.arr (.pair (.int .i64) (.sl (.int .u64)))] 1 0,.st [.it .i64,.arr (.pair (.int .i64) (.sl (.int .u64)))] 1 0,.st [.junk,.junk] 1 0]⟩
 to:=fun v=>⟨v.2.1.1,v.2.1.2.1,v.2.2.1.1,v.2.2.1.2.1⟩
 fr:=fun x=>(((),((),((),()))),((x.ac,(x.ar,())),((x.bc,(x.br,())),(((),((),())),()))))
structure z0X where
 e:Int
 rc:Int
def z0:Pt z0X where
 own:=[]
 t:=⟨[(4,.c (.ptr 2 0)),(5,.c (.it .i64))],[.st [.junk,.junk] 1 0,.st [.junk,.junk] 1 0,.st [.it .i64,.nils] 1 0]⟩
 to:=fun v=>⟨v.1.2.1,v.2.2.2.1.1⟩
 fr:=fun x=>(((),(x.e,())),(((),((),())),(((),((),())),((x.rc,((),())),()))))
def s0(x:p0X):Option (p0X⊕(q0X⊕z0X)):=bif decide (x.i<x.k) then bif inR x.i x.l.length then Q0 (M50.m ⟨(x.l[x.i.toNat]?.getD (0,[])).1,(x.l[x.i.toNat]?.getD (0,[])).2⟩) fun y=>bif y !=0 then some (Sum.inr (Sum.inr ⟨y,0⟩)) else some (Sum.inl ⟨x.l,x.k,IntKind.i64.wrap (x.i+1),x.ac,x.ar,x.bc,x.br⟩) else none else some (Sum.inr (Sum.inl ⟨x.ac,x.ar,x.bc,x.br⟩))
theorem QV(x:p0X):exec E1 83 (C39.Q2 0) 1 (p0.R x) (p0.H x) (J3 0 p0 (.exit 0) q0 .ret z0)=s0 x:=by kernel_rfl
def l0:QS:=J4 0 p0 (.exit 0) q0 .ret z0 s0
theorem tl0:QI (C39.Q2 0) 1=[]:=by kernel_rfl
theorem QW  :QF Try.prog 83 none 0 (C39.Q2 0) l0:=Qc mixed (Q8 QC Q5 _) (by trivial) (by trivial) (fun _=>rfl) (fun _=>rfl) (fun _=>rfl) (tl0▸QB.nil) QV
def E0:Env:=⟨ty,QL cl,JA [(0,l0),(1,l1),(2,l2)],none⟩
def m(x:gX):Option fY:=Q0 (iter s0 ⟨[(x.ac,x.ar),(x.bc,x.br)],(↑2:Int),0,x.ac,x.ar,x.bc,x.br⟩) fun s=>J6 s (fun y=>bif y.ac !=(↑y.br.length:Int) then some (0,[],8) else bif decide (0≤(↑y.ar.length:Int))&&decide ((↑y.ar.length:Int)≤(↑y.ar.length:Int))&&decide ((↑y.ar.length:Int)*(↑32:Int)≤281474976710656)&&decide ((↑y.ar.length:Int)≤9223372036854775807) then Q0 (iter s1 ⟨y.ar,(↑y.ar.length:Int),0,y.ac,y.ar,y.bc,y.br,List.replicate (↑y.ar.length:Int).toNat (0,[]),y.bc,0,(↑y.ar.length:Int).toNat,(↑y.ar.length:Int).toNat⟩) fun y=>bif leB (y.or__lo+y.or__len) y.out.length&&true&&true&&true&&true then some (y.oc,List.take y.or__len (List.drop y.or__lo y.out),0) else none else none) fun z=>some (z.rc,[],z.e)
theorem QJ(x:gX):exec E0 83 C39 0 (QN 0 (g.A x)) (g.H x) (finish 0 ty [.cell 4 40,.tmp 5] f)=m x:=by kernel_rfl
theorem tl:QI C39 0=[(0,C39.Q2 0),(1,C39.Q2 1)]:=by kernel_rfl
theorem known:QM Try.prog 39 g f m:=
 Q9 mixed (Q8 QC Q5 _) s39 rfl rfl tl (QB.cons rfl QW (QB.cons rfl Jb QB.nil)) (fun _ _=>⟨rfl,rfl⟩) (fun _ _=>⟨rfl,rfl⟩) QJ
def con:Con:=Qx g f m default
theorem Q1:QO Try.prog 39 con:=QE known (fun _=>rfl) rfl
end M39
end Go.Proofs.Ytddaobhpffpmoaa
