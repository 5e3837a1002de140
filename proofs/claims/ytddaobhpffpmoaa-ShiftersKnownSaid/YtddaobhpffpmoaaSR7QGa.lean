/- A part of the proof. -/
import Derived.Test.YtddaobhpffpmoaaSR7QG9
set_option linter.all false
set_option maxRecDepth 100000
noncomputable section
namespace Go.Proofs.Ytddaobhpffpmoaa
open Go.Abs
namespace M85
structure gX where(n:Int)
def g:Sg gX:=⟨[.c (.it .i64)],[],λa b=>⟨a.1⟩,λx=>(x.n,()),λx=>()⟩
abbrev fY:=Int
def f:Ft fY:=⟨none,.c (.it .i64),[],λa b=>(a),λy=>y,λy=>()⟩
def cl:List (FuncId×Con):=[]
theorem Q3:QF Try.prog cl:=trivial
def E0:Env:=⟨ty,QN cl,λ_=>none,none⟩
def m(x:gX):Option fY:=bif decide (x.n<0) then some 1 else bif decide (x.n>4096) then some 3 else some 0
theorem QL(x:gX):exec E0 9 C85 0 (QP 0 (g.A x)) (g.H x) (finish 0 ty [.tmp 2] f)=m x:=by kernel_rfl
theorem tl:QI C85 0=[]:=by kernel_rfl
theorem known:QM Try.prog 85 g f m:=
 Q8 mixed (Q5 QB Q3 _) s85 rfl rfl tl QA.nil (λ_ _=>⟨rfl,rfl⟩) (λ_ _=>⟨rfl,rfl⟩) QL
def con:Con:=J9 g f m default
theorem con_ok:QR Try.prog 85 con:=QG known (λ_=>rfl) rfl
end M85
namespace M86
structure gX where(n:Int)
def g:Sg gX:=⟨[.c (.it .i64)],[],λa b=>⟨a.1⟩,λx=>(x.n,()),λx=>()⟩
abbrev fY:=Int
def f:Ft fY:=⟨none,.c (.it .i64),[],λa b=>(a),λy=>y,λy=>()⟩
def cl:List (FuncId×Con):=[]
theorem Q3:QF Try.prog cl:=trivial
def E0:Env:=⟨ty,QN cl,λ_=>none,none⟩
def m(x:gX):Option fY:=some (IntKind.i64.wrap ((IntKind.i64.wrap (x.n+63)).tdiv 64))
theorem QL(x:gX):exec E0 6 C86 0 (QP 0 (g.A x)) (g.H x) (finish 0 ty [.tmp 2] f)=m x:=by kernel_rfl
theorem tl:QI C86 0=[]:=by kernel_rfl
theorem known:QM Try.prog 86 g f m:=
 Q8 mixed (Q5 QB Q3 _) s86 rfl rfl tl QA.nil (λ_ _=>⟨rfl,rfl⟩) (λ_ _=>⟨rfl,rfl⟩) QL
def con:Con:=J9 g f m default
theorem con_ok:QR Try.prog 86 con:=QG known (λ_=>rfl) rfl
end M86
namespace M73
structure gX where(n:Int)
def g:Sg gX:=⟨[.c (.it .i64)],[],λa b=>⟨a.1⟩,λx=>(x.n,()),λx=>()⟩
abbrev fY:=Int×Nat×Nat×Nat×List (Int)
def f:Ft fY:=⟨some [1,0],.agg [.it .i64,.slc 0 0 1],[.arr (.int .u64) 0],λa b=>(a.1,a.2.1.1,a.2.1.2.1,a.2.1.2.2,b.1),λy=>(y.1,((y.2.1,y.2.2.1,y.2.2.2.1),())),λy=>(y.2.2.2.2,())⟩
def cl:List (FuncId×Con):=[(86,M86.con)]
theorem Q3:QF Try.prog cl:=⟨M86.con_ok,trivial⟩
def E0:Env:=⟨ty,QN cl,λ_=>none,none⟩
def m(x:gX):Option fY:=bindO (M86.m ⟨x.n⟩) λy=>bif decide (0<=y)&&decide (y<=y)&&decide (y*(↑8:Int)<=281474976710656)&&decide (y<=9223372036854775807) then some (x.n,0,Int.toNat y,Int.toNat y,List.replicate (Int.toNat y) 0) else none
theorem QL(x:gX):exec E0 8 C73 0 (QP 0 (g.A x)) (g.H x) (finish 0 ty [.cell 2 34] f)=m x:=by kernel_rfl
theorem tl:QI C73 0=[]:=by kernel_rfl
theorem known:QM Try.prog 73 g f m:=
 Q8 mixed (Q5 QB Q3 _) s73 rfl rfl tl QA.nil (λ_ _=>⟨rfl,rfl⟩) (λ_ _=>⟨rfl,rfl⟩) QL
def con:Con:=UP g [] f m default
theorem con_ok:QR Try.prog 73 con:=XX known
end M73
namespace M74
structure gX where(n:Int)(w:List (Int))(i:Int)
def g:Sg gX:=⟨[.agg [.it .i64,.arr (.int .u64)],.c (.it .i64)],[],λa b=>⟨a.1.1,a.1.2.1,a.2.1⟩,λx=>((x.n,(x.w,())),(x.i,())),λx=>()⟩
abbrev fY:=Bool
def f:Ft fY:=⟨none,.c (.bo),[],λa b=>(a),λy=>y,λy=>()⟩
def cl:List (FuncId×Con):=[]
theorem Q3:QF Try.prog cl:=trivial
def E0:Env:=⟨ty,QN cl,λ_=>none,none⟩
def m(x:gX):Option fY:=bif inR (IntKind.i64.wrap (x.i.tdiv 64)) x.w.length then bif decide (0<=x.i.tmod 64) then some (IntKind.u64.wrap (↑(BitVec.ofInt 64 (Int.fdiv (x.w[(IntKind.i64.wrap (x.i.tdiv 64)).toNat]?.getD 0) (2^min (x.i.tmod 64).toNat 64))&&&BitVec.ofInt 64 1).toNat:Int)==1) else none else none
theorem QL(x:gX):exec E0 16 C74 0 (QP 0 (g.A x)) (g.H x) (finish 0 ty [.tmp 4] f)=m x:=by kernel_rfl
theorem tl:QI C74 0=[]:=by kernel_rfl
theorem known:QM Try.prog 74 g f m:=
 Q8 mixed (Q5 QB Q3 _) s74 rfl rfl tl QA.nil (λ_ _=>⟨rfl,rfl⟩) (λ_ _=>⟨rfl,rfl⟩) QL
def con:Con:=J9 g f m default
theorem con_ok:QR Try.prog 74 con:=QG known (λ_=>rfl) rfl
end M74
namespace M75
structure gX where(n:Int)(w_lo w_len w_cap:Nat)(i:Int)(ws:List (Int))
def g:Sg gX:=⟨[.agg [.it .i64,.slc 0 0 1],.c (.it .i64)],[.arr (.int .u64) 0],λa b=>⟨a.1.1,a.1.2.1.1,a.1.2.1.2.1,a.1.2.1.2.2,a.2.1,b.1⟩,λx=>((x.n,((x.w_lo,x.w_len,x.w_cap),())),(x.i,())),λx=>(x.ws,())⟩
abbrev fY:=List (Int)
def f:Ft fY:=⟨none,.tup [],[.arr (.int .u64) 0],λa b=>(b.1),λy=>(),λy=>(y,())⟩
def cl:List (FuncId×Con):=[]
theorem Q3:QF Try.prog cl:=trivial
def E0:Env:=⟨ty,QN cl,λ_=>none,none⟩
def m(x:gX):Option fY:=bif inR (IntKind.i64.wrap (x.i.tdiv 64)) x.w_len then bif decide (x.w_lo+(IntKind.i64.wrap (x.i.tdiv 64)).toNat<x.ws.length) then bif decide (0<=x.i.tmod 64) then bif inR (IntKind.i64.wrap (x.i.tdiv 64)) x.w_len then bif decide (x.w_lo+(IntKind.i64.wrap (x.i.tdiv 64)).toNat<x.ws.length) then some (x.ws.set (x.w_lo+(IntKind.i64.wrap (x.i.tdiv 64)).toNat) (IntKind.u64.wrap (↑(BitVec.ofInt 64 (x.ws[x.w_lo+(IntKind.i64.wrap (x.i.tdiv 64)).toNat]?.getD 0)^^^BitVec.ofInt 64 (IntKind.u64.wrap (1*2^min (x.i.tmod 64).toNat 64))).toNat:Int))) else none else none else none else none else none
theorem QL(x:gX):exec E0 15 C75 0 (QP 0 (g.A x)) (g.H x) (finish 1 ty [] f)=m x:=by kernel_rfl
theorem tl:QI C75 0=[]:=by kernel_rfl
theorem known:QM Try.prog 75 g f m:=
 Q8 mixed (Q5 QB Q3 _) s75 rfl rfl tl QA.nil (λ_ _=>⟨rfl,rfl⟩) (λ_ _=>⟨rfl,rfl⟩) QL
def con:Con:=UP g [.arg 0 1] f m default
theorem con_ok:QR Try.prog 75 con:=XX known
end M75
namespace M51
structure gX where(n:Int)
def g:Sg gX:=⟨[.c (.it .i64)],[],λa b=>⟨a.1⟩,λx=>(x.n,()),λx=>()⟩
abbrev fY:=Int×Nat×Nat×Nat×Int×List (Int)
def f:Ft fY:=⟨some [1,0],.tup [.inr [.it .i64,.slc 0 0 1],.inl (.it .i64)],[.arr (.int .u64) 0],λa b=>(a.1.1,a.1.2.1.1,a.1.2.1.2.1,a.1.2.1.2.2,a.2.1,b.1),λy=>((y.1,((y.2.1,y.2.2.1,y.2.2.2.1),())),(y.2.2.2.2.1,())),λy=>(y.2.2.2.2.2,())⟩
def cl:List (FuncId×Con):=[(85,M85.con),(73,M73.con)]
theorem Q3:QF Try.prog cl:=⟨M85.con_ok,M73.con_ok,trivial⟩
def E0:Env:=⟨ty,QN cl,λ_=>none,none⟩
def m(x:gX):Option fY:=bindO (M85.m ⟨x.n⟩) λy=>bif y !=0 then none else bindO (M73.m ⟨x.n⟩) λy=>some (y.1,y.2.1,y.2.2.1,y.2.2.2.1,0,y.2.2.2.2)
theorem QL(x:gX):exec E0 13 C51 0 (QP 0 (g.A x)) (g.H x) (finish 0 ty [.cell 2 34,.tmp 3] f)=m x:=by kernel_rfl
theorem tl:QI C51 0=[]:=by kernel_rfl
theorem known:QM Try.prog 51 g f m:=
 Q8 mixed (Q5 QB Q3 _) s51 rfl rfl tl QA.nil (λ_ _=>⟨rfl,rfl⟩) (λ_ _=>⟨rfl,rfl⟩) QL
def con:Con:=UP g [] f m default
theorem con_ok:QR Try.prog 51 con:=XX known
end M51
namespace M38
structure gX where(n:Int)(w:List (Int))
def g:Sg gX:=⟨[.agg [.it .i64,.arr (.int .u64)]],[],λa b=>⟨a.1.1,a.1.2.1⟩,λx=>((x.n,(x.w,())),()),λx=>()⟩
abbrev fY:=Int
def f:Ft fY:=⟨none,.c (.it .i64),[],λa b=>(a),λy=>y,λy=>()⟩
def cl:List (FuncId×Con):=[(85,M85.con),(86,M86.con)]
theorem Q3:QF Try.prog cl:=⟨M85.con_ok,M86.con_ok,trivial⟩
def E0:Env:=⟨ty,QN cl,λ_=>none,none⟩
def m(x:gX):Option fY:=bindO (M85.m ⟨x.n⟩) λy=>bif y !=0 then some y else bindO (M86.m ⟨x.n⟩) λy=>bif (↑x.w.length:Int) !=y then some 8 else bif inR (IntKind.i64.wrap ((↑x.w.length:Int) - 1)) x.w.length||!decide (x.n.tmod 64>0) then bif decide (0<=x.n.tmod 64)||!decide (x.n.tmod 64>0) then bif bif decide (x.n.tmod 64>0) then Int.fdiv (x.w[(IntKind.i64.wrap ((↑x.w.length:Int) - 1)).toNat]?.getD 0) (2^min (x.n.tmod 64).toNat 64) !=0 else false then some 1 else some 0 else none else none
theorem QL(x:gX):exec E0 36 C38 0 (QP 0 (g.A x)) (g.H x) (finish 0 ty [.tmp 2] f)=m x:=by kernel_rfl
theorem tl:QI C38 0=[]:=by kernel_rfl
theorem known:QM Try.prog 38 g f m:=
 Q8 mixed (Q5 QB Q3 _) s38 rfl rfl tl QA.nil (λ_ _=>⟨rfl,rfl⟩) (λ_ _=>⟨rfl,rfl⟩) QL
def con:Con:=J9 g f m default
theorem con_ok:QR Try.prog 38 con:=QG known (λ_=>rfl) rfl
end M38
namespace M108
structure gX where(x:Int)
def g:Sg gX:=⟨[.c (.it .u64)],[],λa b=>⟨a.1⟩,λx=>(x.x,()),λx=>()⟩
abbrev fY:=Int
def f:Ft fY:=⟨none,.c (.it .i64),[],λa b=>(a),λy=>y,λy=>()⟩
def cl:List (FuncId×Con):=[]
theorem Q3:QF Try.prog cl:=trivial
def E0:Env:=⟨ty,QN cl,λ_=>none,none⟩
def p1(x:gX):Int:=IntKind.u64.wrap (↑(BitVec.ofInt 64 (x.x.fdiv (2^1))&&&BitVec.ofInt 64 6148914691236517205).toNat:Int)+IntKind.u64.wrap (↑(BitVec.ofInt 64 x.x&&&BitVec.ofInt 64 6148914691236517205).toNat:Int)
def p2(x:gX):Int:=IntKind.u64.wrap (↑(BitVec.ofInt 64 ((IntKind.u64.wrap (p1 x)).fdiv (2^2))&&&BitVec.ofInt 64 3689348814741910323).toNat:Int)+IntKind.u64.wrap (↑(BitVec.ofInt 64 (IntKind.u64.wrap (p1 x))&&&BitVec.ofInt 64 3689348814741910323).toNat:Int)
def p3(x:gX):Int:=IntKind.u64.wrap ((IntKind.u64.wrap (p2 x)).fdiv (2^4)+IntKind.u64.wrap (p2 x))
def p4(x:gX):Int:=IntKind.u64.wrap (↑(BitVec.ofInt 64 (p3 x)&&&BitVec.ofInt 64 1085102592571150095).toNat:Int)
def p5(x:gX):Int:=IntKind.u64.wrap (↑(BitVec.ofInt 64 (p3 x)&&&BitVec.ofInt 64 1085102592571150095).toNat:Int)+(p4 x).fdiv (2^8)
def p6(x:gX):Int:=IntKind.u64.wrap (p5 x)+(IntKind.u64.wrap (p5 x)).fdiv (2^16)
def m(x:gX):Option fY:=some (IntKind.i64.wrap (↑(BitVec.ofInt 64 (IntKind.i64.wrap (IntKind.u64.wrap (IntKind.u64.wrap (p6 x)+(IntKind.u64.wrap (p6 x)).fdiv (2^32))))&&&BitVec.ofInt 64 127).toNat:Int))
theorem QL(x:gX):exec E0 35 C108 0 (QP 0 (g.A x)) (g.H x) (finish 0 ty [.tmp 2] f)=m x:=by kernel_rfl
theorem tl:QI C108 0=[]:=by kernel_rfl
theorem known:QM Try.prog 108 g f m:=
 Q8 mixed (Q5 QB Q3 _) s108 rfl rfl tl QA.nil (λ_ _=>⟨rfl,rfl⟩) (λ_ _=>⟨rfl,rfl⟩) QL
def con:Con:=J9 g f m default
theorem con_ok:QR Try.prog 108 con:=QG known (λ_=>rfl) rfl
end M108
namespace M84
structure gX where(n:Int)(w:List (Int))
def g:Sg gX:=⟨[.agg [.it .i64,.arr (.int .u64)]],[],λa b=>⟨a.1.1,a.1.2.1⟩,λx=>((x.n,(x.w,())),()),λx=>()⟩
abbrev fY:=Int
def f:Ft fY:=⟨none,.c (.it .i64),[],λa b=>(a),λy=>y,λy=>()⟩
def cl:List (FuncId×Con):=[(108,M108.con)]
theorem Q3:QF Try.prog cl:=⟨M108.con_ok,trivial⟩
def E1:Env:=⟨ty,QN cl,λ_=>none,none⟩
structure p0X where(s:Int)(l:List (Int))(k i:Int)
def p0:Pt p0X where
 own:=[]
 t:=⟨[(2,.c (.it .i64)),(6,.c (.arr (.int .u64))),(7,.c (.it .i64)),(8,.c (.it .i64))],[]⟩
 to:=λv=>⟨v.1.1,v.1.2.1,v.1.2.2.1,v.1.2.2.2.1⟩
 fr:=λx=>((x.s,(x.l,(x.k,(x.i,())))),())
structure q0X where(s:Int)
def q0:Pt q0X where
 own:=[]
 t:=⟨[(2,.c (.it .i64))],[]⟩
 to:=λv=>⟨v.1.1⟩
 fr:=λx=>((x.s,()),())
def s0(x:p0X):Option (p0X⊕q0X):=bif decide (x.i<x.k) then bif inR x.i x.l.length then bindO (M108.m ⟨x.l[x.i.toNat]?.getD 0⟩) λy=>some (Sum.inl ⟨IntKind.i64.wrap (x.s+y),x.l,x.k,IntKind.i64.wrap (x.i+1)⟩) else none else some (Sum.inr ⟨x.s⟩)
theorem QZ(x:p0X):exec E1 18 (C84.Q2 0) 1 (p0.R x) (p0.H x) (Qr 0 p0 (.exit 0) q0)=s0 x:=by kernel_rfl
def l0:QU:=Qs 0 p0 (.exit 0) q0 s0
theorem tl0:QI (C84.Q2 0) 1=[]:=by kernel_rfl
theorem Qa  :QH Try.prog 18 none 0 (C84.Q2 0) l0:=QS mixed (Q5 QB Q3 _) (by trivial) (λ_=>rfl) (λ_=>rfl) (tl0▸QA.nil) QZ
def E0:Env:=⟨ty,QN cl,JH [(0,l0)],none⟩
def m(x:gX):Option fY:=bindO (iter s0 ⟨0,x.w,(↑x.w.length:Int),0⟩) λy=>some y.s
theorem QL(x:gX):exec E0 18 C84 0 (QP 0 (g.A x)) (g.H x) (finish 0 ty [.tmp 2] f)=m x:=by kernel_rfl
theorem tl:QI C84 0=[(0,C84.Q2 0)]:=by kernel_rfl
theorem known:QM Try.prog 84 g f m:=
 Q8 mixed (Q5 QB Q3 _) s84 rfl rfl tl (QA.cons rfl Qa QA.nil) (λ_ _=>⟨rfl,rfl⟩) (λ_ _=>⟨rfl,rfl⟩) QL
def con:Con:=J9 g f m default
theorem con_ok:QR Try.prog 84 con:=QG known (λ_=>rfl) rfl
end M84
namespace M105
structure gX where(x y:Int)
def g:Sg gX:=⟨[.c (.it .u64),.c (.it .u64)],[],λa b=>⟨a.1,a.2.1⟩,λx=>(x.x,(x.y,())),λx=>()⟩
abbrev fY:=Int
def f:Ft fY:=⟨none,.c (.it .u64),[],λa b=>(a),λy=>y,λy=>()⟩
def cl:List (FuncId×Con):=[]
theorem Q3:QF Try.prog cl:=trivial
def E0:Env:=⟨ty,QN cl,λ_=>none,none⟩
def m(x:gX):Option fY:=some (IntKind.u64.wrap (↑(BitVec.ofInt 64 x.x^^^BitVec.ofInt 64 x.y).toNat:Int))
theorem QL(x:gX):exec E0 8 C105 0 (QP 0 (g.A x)) (g.H x) (finish 0 ty [.tmp 4] f)=m x:=by kernel_rfl
theorem tl:QI C105 0=[]:=by kernel_rfl
theorem known:QM Try.prog 105 g f m:=
 Q8 mixed (Q5 QB Q3 _) s105 rfl rfl tl QA.nil (λ_ _=>⟨rfl,rfl⟩) (λ_ _=>⟨rfl,rfl⟩) QL
def con:Con:=J9 g f m default
theorem con_ok:QR Try.prog 105 con:=QG known (λ_=>rfl) rfl
end M105
namespace M106
structure gX where(x y:Int)
def g:Sg gX:=⟨[.c (.it .u64),.c (.it .u64)],[],λa b=>⟨a.1,a.2.1⟩,λx=>(x.x,(x.y,())),λx=>()⟩
abbrev fY:=Int
def f:Ft fY:=⟨none,.c (.it .u64),[],λa b=>(a),λy=>y,λy=>()⟩
def cl:List (FuncId×Con):=[]
theorem Q3:QF Try.prog cl:=trivial
def E0:Env:=⟨ty,QN cl,λ_=>none,none⟩
def m(x:gX):Option fY:=some (IntKind.u64.wrap (↑(BitVec.ofInt 64 x.x&&&BitVec.ofInt 64 x.y).toNat:Int))
theorem QL(x:gX):exec E0 8 C106 0 (QP 0 (g.A x)) (g.H x) (finish 0 ty [.tmp 4] f)=m x:=by kernel_rfl
theorem tl:QI C106 0=[]:=by kernel_rfl
theorem known:QM Try.prog 106 g f m:=
 Q8 mixed (Q5 QB Q3 _) s106 rfl rfl tl QA.nil (λ_ _=>⟨rfl,rfl⟩) (λ_ _=>⟨rfl,rfl⟩) QL
def con:Con:=J9 g f m default
theorem con_ok:QR Try.prog 106 con:=QG known (λ_=>rfl) rfl
end M106
namespace M104x
structure gX where(an:Int)(aw:List (Int))(bn:Int)(bw:List (Int))
def g:Sg gX:=⟨[.agg [.it .i64,.arr (.int .u64)],.agg [.it .i64,.arr (.int .u64)],.c (.fn 105)],[],λa b=>⟨a.1.1,a.1.2.1,a.2.1.1,a.2.1.2.1⟩,λx=>((x.an,(x.aw,())),((x.bn,(x.bw,())),((),()))),λx=>()⟩
abbrev fY:=Int×List (Int)
def f:Ft fY:=⟨none,.agg [.it .i64,.arr (.int .u64)],[],λa b=>(a.1,a.2.1),λy=>(y.1,(y.2,())),λy=>()⟩
def cl:List (FuncId×Con):=[(73,M73.con),(105,M105.con)]
theorem Q3:QF Try.prog cl:=⟨M73.con_ok,M105.con_ok,trivial⟩
def E1:Env:=⟨ty,QN cl,λ_=>none,none⟩
structure p0X where(k i an:Int)(aw:List (Int))(bn:Int)(bw ws:List (Int))(on:Int)(ow_lo ow_len ow_cap:Nat)
def p0:Pt p0X where
 own:=[]
 t:=⟨[(2,.c (.fn 105)),(3,.c (.ptr 0 0)),(4,.c (.ptr 1 0)),(6,.c (.ptr 2 0)),(7,.c (.ptr 4 0)),(14,.c (.it .i64)),(15,.c (.it .i64))],[.st [.it .i64,.arr (.int .u64)] 1 0,.st [.it .i64,.arr (.int .u64)] 1 0,.st [.junk,.junk] 1 0,.arr (.int .u64) 0,.st [.it .i64,.slc 3 0 1] 1 0]⟩
 to:=λv=>⟨v.1.2.2.2.2.2.1,v.1.2.2.2.2.2.2.1,v.2.1.1,v.2.1.2.1,v.2.2.1.1,v.2.2.1.2.1,v.2.2.2.2.1,v.2.2.2.2.2.1.1,v.2.2.2.2.2.1.2.1.1,v.2.2.2.2.2.1.2.1.2.1,v.2.2.2.2.2.1.2.1.2.2⟩
 fr:=λx=>(((),((),((),((),((),(x.k,(x.i,()))))))),((x.an,(x.aw,())),((x.bn,(x.bw,())),(((),((),())),(x.ws,((x.on,((x.ow_lo,x.ow_len,x.ow_cap),())),()))))))
structure q0X where(an:Int)(aw:List (Int))(bn:Int)(bw ws:List (Int))(on:Int)(ow_lo ow_len ow_cap:Nat)
def q0:Pt q0X where
 own:=[]
 t:=⟨[(6,.c (.ptr 2 0)),(7,.c (.ptr 4 0))],[.st [.it .i64,.arr (.int .u64)] 1 0,.st [.it .i64,.arr (.int .u64)] 1 0,.st [.junk,.junk] 1 0,.arr (.int .u64) 0,.st [.it .i64,.slc 3 0 1] 1 0]⟩
 to:=λv=>⟨v.2.1.1,v.2.1.2.1,v.2.2.1.1,v.2.2.1.2.1,v.2.2.2.2.1,v.2.2.2.2.2.1.1,v.2.2.2.2.2.1.2.1.1,v.2.2.2.2.2.1.2.1.2.1,v.2.2.2.2.2.1.2.1.2.2⟩
 fr:=λx=>(((),((),())),((x.an,(x.aw,())),((x.bn,(x.bw,())),(((),((),())),(x.ws,((x.on,((x.ow_lo,x.ow_len,x.ow_cap),())),()))))))
def s0(x:p0X):Option (p0X⊕q0X):=bif decide (x.i<x.k) then bif inR x.i x.aw.length then bif inR x.i x.bw.length then bindO (M105.m ⟨x.aw[x.i.toNat]?.getD 0,x.bw[x.i.toNat]?.getD 0⟩) λy=>bif inR x.i x.ow_len then bif decide (x.ow_lo+x.i.toNat<x.ws.length) then some (Sum.inl ⟨x.k,IntKind.i64.wrap (x.i+1),x.an,x.aw,x.bn,x.bw,x.ws.set (x.ow_lo+x.i.toNat) y,x.on,x.ow_lo,x.ow_len,x.ow_cap⟩) else none else none else none else none else some (Sum.inr ⟨x.an,x.aw,x.bn,x.bw,x.ws,x.on,x.ow_lo,x.ow_len,x.ow_cap⟩)
theorem QZ(x:p0X):exec E1 36 (C104.Q2 0) 1 (p0.R x) (p0.H x) (Qr 0 p0 (.exit 0) q0)=s0 x:=by kernel_rfl
def l0:QU:=Qs 0 p0 (.exit 0) q0 s0
theorem tl0:QI (C104.Q2 0) 1=[]:=by kernel_rfl
theorem Qa  :QH Try.prog 36 none 0 (C104.Q2 0) l0:=QS mixed (Q5 QB Q3 _) (by trivial) (λ_=>rfl) (λ_=>rfl) (tl0▸QA.nil) QZ
def E0:Env:=⟨ty,QN cl,JH [(0,l0)],none⟩
def m(x:gX):Option fY:=bindO (M73.m ⟨x.an⟩) λy=>bindO (iter s0 ⟨(↑y.2.2.1:Int),0,x.an,x.aw,x.bn,x.bw,y.2.2.2.2,y.1,y.2.1,y.2.2.1,y.2.2.2.1⟩) λy=>bif leB (y.ow_lo+y.ow_len) y.ws.length&&true&&true&&true then some (y.on,List.take y.ow_len (List.drop y.ow_lo y.ws)) else none
theorem QL(x:gX):exec E0 36 C104 0 (QP 0 (g.A x)) (g.H x) (finish 0 ty [.cell 6 34] f)=m x:=by kernel_rfl
theorem tl:QI C104 0=[(0,C104.Q2 0)]:=by kernel_rfl
theorem known:QM Try.prog 104 g f m:=
 Q8 mixed (Q5 QB Q3 _) s104 rfl rfl tl (QA.cons rfl Qa QA.nil) (λ_ _=>⟨rfl,rfl⟩) (λ_ _=>⟨rfl,rfl⟩) QL
def con:Con:=J9 g f m default
theorem con_ok:QR Try.prog 104 con:=QG known (λ_=>rfl) rfl
end M104x
namespace M104a
structure gX where(an:Int)(aw:List (Int))(bn:Int)(bw:List (Int))
def g:Sg gX:=⟨[.agg [.it .i64,.arr (.int .u64)],.agg [.it .i64,.arr (.int .u64)],.c (.fn 106)],[],λa b=>⟨a.1.1,a.1.2.1,a.2.1.1,a.2.1.2.1⟩,λx=>((x.an,(x.aw,())),((x.bn,(x.bw,())),((),()))),λx=>()⟩
abbrev fY:=Int×List (Int)
def f:Ft fY:=⟨none,.agg [.it .i64,.arr (.int .u64)],[],λa b=>(a.1,a.2.1),λy=>(y.1,(y.2,())),λy=>()⟩
def cl:List (FuncId×Con):=[(73,M73.con),(106,M106.con)]
theorem Q3:QF Try.prog cl:=⟨M73.con_ok,M106.con_ok,trivial⟩
def E1:Env:=⟨ty,QN cl,λ_=>none,none⟩
structure p0X where(k i an:Int)(aw:List (Int))(bn:Int)(bw ws:List (Int))(on:Int)(ow_lo ow_len ow_cap:Nat)
def p0:Pt p0X where
 own:=[]
 t:=⟨[(2,.c (.fn 106)),(3,.c (.ptr 0 0)),(4,.c (.ptr 1 0)),(6,.c (.ptr 2 0)),(7,.c (.ptr 4 0)),(14,.c (.it .i64)),(15,.c (.it .i64))],[.st [.it .i64,.arr (.int .u64)] 1 0,.st [.it .i64,.arr (.int .u64)] 1 0,.st [.junk,.junk] 1 0,.arr (.int .u64) 0,.st [.it .i64,.slc 3 0 1] 1 0]⟩
 to:=λv=>⟨v.1.2.2.2.2.2.1,v.1.2.2.2.2.2.2.1,v.2.1.1,v.2.1.2.1,v.2.2.1.1,v.2.2.1.2.1,v.2.2.2.2.1,v.2.2.2.2.2.1.1,v.2.2.2.2.2.1.2.1.1,v.2.2.2.2.2.1.2.1.2.1,v.2.2.2.2.2.1.2.1.2.2⟩
 fr:=λx=>(((),((),((),((),((),(x.k,(x.i,()))))))),((x.an,(x.aw,())),((x.bn,(x.bw,())),(((),((),())),(x.ws,((x.on,((x.ow_lo,x.ow_len,x.ow_cap),())),()))))))
structure q0X where(an:Int)(aw:List (Int))(bn:Int)(bw ws:List (Int))(on:Int)(ow_lo ow_len ow_cap:Nat)
def q0:Pt q0X where
 own:=[]
 t:=⟨[(6,.c (.ptr 2 0)),(7,.c (.ptr 4 0))],[.st [.it .i64,.arr (.int .u64)] 1 0,.st [.it .i64,.arr (.int .u64)] 1 0,.st [.junk,.junk] 1 0,.arr (.int .u64) 0,.st [.it .i64,.slc 3 0 1] 1 0]⟩
 to:=λv=>⟨v.2.1.1,v.2.1.2.1,v.2.2.1.1,v.2.2.1.2.1,v.2.2.2.2.1,v.2.2.2.2.2.1.1,v.2.2.2.2.2.1.2.1.1,v.2.2.2.2.2.1.2.1.2.1,v.2.2.2.2.2.1.2.1.2.2⟩
 fr:=λx=>(((),((),())),((x.an,(x.aw,())),((x.bn,(x.bw,())),(((),((),())),(x.ws,((x.on,((x.ow_lo,x.ow_len,x.ow_cap),())),()))))))
def s0(x:p0X):Option (p0X⊕q0X):=bif decide (x.i<x.k) then bif inR x.i x.aw.length then bif inR x.i x.bw.length then bindO (M106.m ⟨x.aw[x.i.toNat]?.getD 0,x.bw[x.i.toNat]?.getD 0⟩) λy=>bif inR x.i x.ow_len then bif decide (x.ow_lo+x.i.toNat<x.ws.length) then some (Sum.inl ⟨x.k,IntKind.i64.wrap (x.i+1),x.an,x.aw,x.bn,x.bw,x.ws.set (x.ow_lo+x.i.toNat) y,x.on,x.ow_lo,x.ow_len,x.ow_cap⟩) else none else none else none else none else some (Sum.inr ⟨x.an,x.aw,x.bn,x.bw,x.ws,x.on,x.ow_lo,x.ow_len,x.ow_cap⟩)
theorem QZ(x:p0X):exec E1 36 (C104.Q2 0) 1 (p0.R x) (p0.H x) (Qr 0 p0 (.exit 0) q0)=s0 x:=by kernel_rfl
def l0:QU:=Qs 0 p0 (.exit 0) q0 s0
theorem tl0:QI (C104.Q2 0) 1=[]:=by kernel_rfl
theorem Qa  :QH Try.prog 36 none 0 (C104.Q2 0) l0:=QS mixed (Q5 QB Q3 _) (by trivial) (λ_=>rfl) (λ_=>rfl) (tl0▸QA.nil) QZ
def E0:Env:=⟨ty,QN cl,JH [(0,l0)],none⟩
def m(x:gX):Option fY:=bindO (M73.m ⟨x.an⟩) λy=>bindO (iter s0 ⟨(↑y.2.2.1:Int),0,x.an,x.aw,x.bn,x.bw,y.2.2.2.2,y.1,y.2.1,y.2.2.1,y.2.2.2.1⟩) λy=>bif leB (y.ow_lo+y.ow_len) y.ws.length&&true&&true&&true then some (y.on,List.take y.ow_len (List.drop y.ow_lo y.ws)) else none
theorem QL(x:gX):exec E0 36 C104 0 (QP 0 (g.A x)) (g.H x) (finish 0 ty [.cell 6 34] f)=m x:=by kernel_rfl
theorem tl:QI C104 0=[(0,C104.Q2 0)]:=by kernel_rfl
theorem known:QM Try.prog 104 g f m:=
 Q8 mixed (Q5 QB Q3 _) s104 rfl rfl tl (QA.cons rfl Qa QA.nil) (λ_ _=>⟨rfl,rfl⟩) (λ_ _=>⟨rfl,rfl⟩) QL
def con:Con:=J9 g f m default
theorem con_ok:QR Try.prog 104 con:=QG known (λ_=>rfl) rfl
end M104a
namespace M80
structure gX where(an:Int)(aw:List (Int))(bn:Int)(bw:List (Int))
def g:Sg gX:=⟨[.agg [.it .i64,.arr (.int .u64)],.agg [.it .i64,.arr (.int .u64)]],[],λa b=>⟨a.1.1,a.1.2.1,a.2.1.1,a.2.1.2.1⟩,λx=>((x.an,(x.aw,())),((x.bn,(x.bw,())),())),λx=>()⟩
abbrev fY:=Int×List (Int)
def f:Ft fY:=⟨none,.agg [.it .i64,.arr (.int .u64)],[],λa b=>(a.1,a.2.1),λy=>(y.1,(y.2,())),λy=>()⟩
def cl:List (FuncId×Con):=[(104,M104x.con)]
theorem Q3:QF Try.prog cl:=⟨M104x.con_ok,trivial⟩
def E0:Env:=⟨ty,QN cl,λ_=>none,none⟩
def m(x:gX):Option fY:=bindO (M104x.m ⟨x.an,x.aw,x.bn,x.bw⟩) λy=>some (y.1,y.2)
theorem QL(x:gX):exec E0 8 C80 0 (QP 0 (g.A x)) (g.H x) (finish 0 ty [.cell 4 34] f)=m x:=by kernel_rfl
theorem tl:QI C80 0=[]:=by kernel_rfl
theorem known:QM Try.prog 80 g f m:=
 Q8 mixed (Q5 QB Q3 _) s80 rfl rfl tl QA.nil (λ_ _=>⟨rfl,rfl⟩) (λ_ _=>⟨rfl,rfl⟩) QL
def con:Con:=J9 g f m default
theorem con_ok:QR Try.prog 80 con:=QG known (λ_=>rfl) rfl
end M80
namespace M81
structure gX where(an:Int)(aw:List (Int))(bn:Int)(bw:List (Int))
def g:Sg gX:=⟨[.agg [.it .i64,.arr (.int .u64)],.agg [.it .i64,.arr (.int .u64)]],[],λa b=>⟨a.1.1,a.1.2.1,a.2.1.1,a.2.1.2.1⟩,λx=>((x.an,(x.aw,())),((x.bn,(x.bw,())),())),λx=>()⟩
abbrev fY:=Bool
def f:Ft fY:=⟨none,.c (.bo),[],λa b=>(a),λy=>y,λy=>()⟩
def cl:List (FuncId×Con):=[(104,M104a.con),(84,M84.con)]
theorem Q3:QF Try.prog cl:=⟨M104a.con_ok,M84.con_ok,trivial⟩
def E0:Env:=⟨ty,QN cl,λ_=>none,none⟩
def m(x:gX):Option fY:=bindO (M104a.m ⟨x.an,x.aw,x.bn,x.bw⟩) λy=>bindO (M84.m ⟨y.1,y.2⟩) λy=>some (Int.tmod y 2==1)
theorem QL(x:gX):exec E0 11 C81 0 (QP 0 (g.A x)) (g.H x) (finish 0 ty [.tmp 4] f)=m x:=by kernel_rfl
theorem tl:QI C81 0=[]:=by kernel_rfl
theorem known:QM Try.prog 81 g f m:=
 Q8 mixed (Q5 QB Q3 _) s81 rfl rfl tl QA.nil (λ_ _=>⟨rfl,rfl⟩) (λ_ _=>⟨rfl,rfl⟩) QL
def con:Con:=J9 g f m default
theorem con_ok:QR Try.prog 81 con:=QG known (λ_=>rfl) rfl
end M81
namespace M52
structure gX where(l:List (Int))
def g:Sg gX:=⟨[.c (.arr (.int .u8))],[],λa b=>⟨a.1⟩,λx=>(x.l,()),λx=>()⟩
abbrev fY:=Int×List (Int)×Int
def f:Ft fY:=⟨none,.tup [.inr [.it .i64,.arr (.int .u64)],.inl (.it .i64)],[],λa b=>(a.1.1,a.1.2.1,a.2.1),λy=>((y.1,(y.2.1,())),(y.2.2,())),λy=>()⟩
def cl:List (FuncId×Con):=[(51,M51.con),(75,M75.con)]
theorem Q3:QF Try.prog cl:=⟨M51.con_ok,M75.con_ok,trivial⟩
def E1:Env:=⟨ty,QN cl,λ_=>none,none⟩
structure p0X where(l:List (Int))(n i:Int)(ws:List (Int))(vn:Int)(vw_lo vw_len vw_cap:Nat)
def p0:Pt p0X where
 own:=[]
 t:=⟨[(2,.c (.ptr 0 0)),(4,.c (.ptr 2 0)),(18,.c (.arr (.int .u8))),(19,.c (.it .i64)),(20,.c (.it .i64))],[.st [.junk,.junk] 1 0,.arr (.int .u64) 0,.st [.it .i64,.slc 1 0 1] 1 0]⟩
 to:=λv=>⟨v.1.2.2.1,v.1.2.2.2.1,v.1.2.2.2.2.1,v.2.2.1,v.2.2.2.1.1,v.2.2.2.1.2.1.1,v.2.2.2.1.2.1.2.1,v.2.2.2.1.2.1.2.2⟩
 fr:=λx=>(((),((),(x.l,(x.n,(x.i,()))))),(((),((),())),(x.ws,((x.vn,((x.vw_lo,x.vw_len,x.vw_cap),())),()))))
structure q0X where(ws:List (Int))(vn:Int)(vw_lo vw_len vw_cap:Nat)
def q0:Pt q0X where
 own:=[]
 t:=⟨[(2,.c (.ptr 0 0)),(4,.c (.ptr 2 0))],[.st [.junk,.junk] 1 0,.arr (.int .u64) 0,.st [.it .i64,.slc 1 0 1] 1 0]⟩
 to:=λv=>⟨v.2.2.1,v.2.2.2.1.1,v.2.2.2.1.2.1.1,v.2.2.2.1.2.1.2.1,v.2.2.2.1.2.1.2.2⟩
 fr:=λx=>(((),((),())),(((),((),())),(x.ws,((x.vn,((x.vw_lo,x.vw_len,x.vw_cap),())),()))))
structure z0X where(e rn:Int)
def z0:Pt z0X where
 own:=[]
 t:=⟨[(2,.c (.ptr 0 0)),(3,.c (.it .i64))],[.st [.it .i64,.nils] 1 0]⟩
 to:=λv=>⟨v.1.2.1,v.2.1.1⟩
 fr:=λx=>(((),(x.e,())),((x.rn,((),())),()))
def s0(x:p0X):Option (p0X⊕(q0X⊕z0X)):=bif decide (x.i<x.n) then bif inR x.i x.l.length then bif decide (x.l[x.i.toNat]?.getD 0>1) then some (Sum.inr (Sum.inr ⟨1,0⟩)) else bif x.l[x.i.toNat]?.getD 0==1 then bindO (M75.m ⟨x.vn,x.vw_lo,x.vw_len,x.vw_cap,x.i,x.ws⟩) λy=>some (Sum.inl ⟨x.l,x.n,IntKind.i64.wrap (x.i+1),y,x.vn,x.vw_lo,x.vw_len,x.vw_cap⟩) else some (Sum.inl ⟨x.l,x.n,IntKind.i64.wrap (x.i+1),x.ws,x.vn,x.vw_lo,x.vw_len,x.vw_cap⟩) else none else some (Sum.inr (Sum.inl ⟨x.ws,x.vn,x.vw_lo,x.vw_len,x.vw_cap⟩))
theorem QZ(x:p0X):exec E1 35 (C52.Q2 0) 1 (p0.R x) (p0.H x) (JF 0 p0 (.exit 0) q0 .ret z0)=s0 x:=by kernel_rfl
def l0:QU:=JG 0 p0 (.exit 0) q0 .ret z0 s0
theorem tl0:QI (C52.Q2 0) 1=[]:=by kernel_rfl
theorem Qa  :QH Try.prog 35 none 0 (C52.Q2 0) l0:=Qi mixed (Q5 QB Q3 _) (by trivial) (by trivial) (λ_=>rfl) (λ_=>rfl) (λ_=>rfl) (tl0▸QA.nil) QZ
def E0:Env:=⟨ty,QN cl,JH [(0,l0)],none⟩
def m(x:gX):Option fY:=bindO (M51.m ⟨(↑x.l.length:Int)⟩) λy=>bif y.2.2.2.2.1 !=0 then some (0,[],y.2.2.2.2.1) else bindO (iter s0 ⟨x.l,(↑x.l.length:Int),0,y.2.2.2.2.2,y.1,y.2.1,y.2.2.1,y.2.2.2.1⟩) λs=>sumC s (λy=>bif leB (y.vw_lo+y.vw_len) y.ws.length&&true&&true&&true&&true then some (y.vn,List.take y.vw_len (List.drop y.vw_lo y.ws),0) else none) λz=>some (z.rn,[],z.e)
theorem QL(x:gX):exec E0 35 C52 0 (QP 0 (g.A x)) (g.H x) (finish 0 ty [.cell 2 34,.tmp 3] f)=m x:=by kernel_rfl
theorem tl:QI C52 0=[(0,C52.Q2 0)]:=by kernel_rfl
theorem known:QM Try.prog 52 g f m:=
 Q8 mixed (Q5 QB Q3 _) s52 rfl rfl tl (QA.cons rfl Qa QA.nil) (λ_ _=>⟨rfl,rfl⟩) (λ_ _=>⟨rfl,rfl⟩) QL
def con:Con:=J9 g f m default
theorem con_ok:QR Try.prog 52 con:=QG known (λ_=>rfl) rfl
end M52
namespace M34
structure gX where(n:Int)(w:List (Int))
def g:Sg gX:=⟨[.agg [.it .i64,.arr (.int .u64)]],[],λa b=>⟨a.1.1,a.1.2.1⟩,λx=>((x.n,(x.w,())),()),λx=>()⟩
abbrev fY:=List (Int)
def f:Ft fY:=⟨none,.c (.arr (.int .u8)),[],λa b=>(a),λy=>y,λy=>()⟩
def cl:List (FuncId×Con):=[(38,M38.con),(74,M74.con)]
theorem Q3:QF Try.prog cl:=⟨M38.con_ok,M74.con_ok,trivial⟩
def E1:Env:=⟨ty,QN cl,λ_=>none,none⟩
structure p0X where(out_lo out_len out_cap:Nat)(k i n:Int)(w xs:List (Int))
def p0:Pt p0X where
 own:=[]
 t:=⟨[(1,.c (.ptr 0 0)),(3,.c (.slc 1 0 1)),(12,.c (.it .i64)),(13,.c (.it .i64))],[.st [.it .i64,.arr (.int .u64)] 1 0,.arr (.int .u8) 0]⟩
 to:=λv=>⟨v.1.2.1.1,v.1.2.1.2.1,v.1.2.1.2.2,v.1.2.2.1,v.1.2.2.2.1,v.2.1.1,v.2.1.2.1,v.2.2.1⟩
 fr:=λx=>(((),((x.out_lo,x.out_len,x.out_cap),(x.k,(x.i,())))),((x.n,(x.w,())),(x.xs,())))
structure q0X where(out_lo out_len out_cap:Nat)(n:Int)(w xs:List (Int))
def q0:Pt q0X where
 own:=[]
 t:=⟨[(3,.c (.slc 1 0 1))],[.st [.it .i64,.arr (.int .u64)] 1 0,.arr (.int .u8) 0]⟩
 to:=λv=>⟨v.1.1.1,v.1.1.2.1,v.1.1.2.2,v.2.1.1,v.2.1.2.1,v.2.2.1⟩
 fr:=λx=>(((x.out_lo,x.out_len,x.out_cap),()),((x.n,(x.w,())),(x.xs,())))
def s0(x:p0X):Option (p0X⊕q0X):=bif decide (x.i<x.k) then bindO (M74.m ⟨x.n,x.w,x.i⟩) λy=>bif y then bif inR x.i x.out_len then bif decide (x.out_lo+x.i.toNat<x.xs.length) then some (Sum.inl ⟨x.out_lo,x.out_len,x.out_cap,x.k,IntKind.i64.wrap (x.i+1),x.n,x.w,x.xs.set (x.out_lo+x.i.toNat) 1⟩) else none else none else some (Sum.inl ⟨x.out_lo,x.out_len,x.out_cap,x.k,IntKind.i64.wrap (x.i+1),x.n,x.w,x.xs⟩) else some (Sum.inr ⟨x.out_lo,x.out_len,x.out_cap,x.n,x.w,x.xs⟩)
theorem QZ(x:p0X):exec E1 24 (C34.Q2 0) 1 (p0.R x) (p0.H x) (Qr 0 p0 (.exit 0) q0)=s0 x:=by kernel_rfl
def l0:QU:=Qs 0 p0 (.exit 0) q0 s0
theorem tl0:QI (C34.Q2 0) 1=[]:=by kernel_rfl
theorem Qa  :QH Try.prog 24 none 0 (C34.Q2 0) l0:=QS mixed (Q5 QB Q3 _) (by trivial) (λ_=>rfl) (λ_=>rfl) (tl0▸QA.nil) QZ
def E0:Env:=⟨ty,QN cl,JH [(0,l0)],none⟩
def m(x:gX):Option fY:=bindO (M38.m ⟨x.n,x.w⟩) λy=>bif y !=0 then some [] else bif decide (0<=x.n)&&decide (x.n<=x.n)&&decide (x.n*(↑1:Int)<=281474976710656)&&decide (x.n<=9223372036854775807) then bindO (iter s0 ⟨0,x.n.toNat,x.n.toNat,(↑x.n.toNat:Int),0,x.n,x.w,List.replicate x.n.toNat (0:Int)⟩) λy=>bif leB (y.out_lo+y.out_len) y.xs.length&&true&&true then some (List.take y.out_len (List.drop y.out_lo y.xs)) else none else none
theorem QL(x:gX):exec E0 24 C34 0 (QP 0 (g.A x)) (g.H x) (finish 0 ty [.tmp 2] f)=m x:=by kernel_rfl
theorem tl:QI C34 0=[(0,C34.Q2 0)]:=by kernel_rfl
theorem known:QM Try.prog 34 g f m:=
 Q8 mixed (Q5 QB Q3 _) s34 rfl rfl tl (QA.cons rfl Qa QA.nil) (λ_ _=>⟨rfl,rfl⟩) (λ_ _=>⟨rfl,rfl⟩) QL
def con:Con:=J9 g f m default
theorem con_ok:QR Try.prog 34 con:=QG known (λ_=>rfl) rfl
end M34
namespace M37
structure gX where(n:Int)(w:List (Int))(i:Int)
def g:Sg gX:=⟨[.agg [.it .i64,.arr (.int .u64)],.c (.it .i64)],[],λa b=>⟨a.1.1,a.1.2.1,a.2.1⟩,λx=>((x.n,(x.w,())),(x.i,())),λx=>()⟩
abbrev fY:=Int
def f:Ft fY:=⟨none,.c (.it .u8),[],λa b=>(a),λy=>y,λy=>()⟩
def cl:List (FuncId×Con):=[(38,M38.con),(74,M74.con)]
theorem Q3:QF Try.prog cl:=⟨M38.con_ok,M74.con_ok,trivial⟩
def E0:Env:=⟨ty,QN cl,λ_=>none,none⟩
def m(x:gX):Option fY:=bindO (M38.m ⟨x.n,x.w⟩) λy=>bindO (bif !bif bif y !=0 then true else decide (x.i<0) then true else decide (x.i>=x.n) then M74.m ⟨x.n,x.w,x.i⟩ else some false) λy_1=>bif bif bif bif y !=0 then true else decide (x.i<0) then true else decide (x.i>=x.n) then true else !y_1 then some 0 else some 1
theorem QL(x:gX):exec E0 24 C37 0 (QP 0 (g.A x)) (g.H x) (finish 0 ty [.tmp 4] f)=m x:=by kernel_rfl
theorem tl:QI C37 0=[]:=by kernel_rfl
theorem known:QM Try.prog 37 g f m:=
 Q8 mixed (Q5 QB Q3 _) s37 rfl rfl tl QA.nil (λ_ _=>⟨rfl,rfl⟩) (λ_ _=>⟨rfl,rfl⟩) QL
def con:Con:=J9 g f m default
theorem con_ok:QR Try.prog 37 con:=QG known (λ_=>rfl) rfl
end M37
namespace M50
structure gX where(c:Int)(rows:List ((Int)×List (Int)))
def g:Sg gX:=⟨[.agg [.it .i64,.arr (.pair (.int .i64) (.sl (.int .u64)))]],[],λa b=>⟨a.1.1,a.1.2.1⟩,λx=>((x.c,(x.rows,())),()),λx=>()⟩
abbrev fY:=Int
def f:Ft fY:=⟨none,.c (.it .i64),[],λa b=>(a),λy=>y,λy=>()⟩
def cl:List (FuncId×Con):=[(85,M85.con),(38,M38.con)]
theorem Q3:QF Try.prog cl:=⟨M85.con_ok,M38.con_ok,trivial⟩
def E1:Env:=⟨ty,QN cl,λ_=>none,none⟩
structure p0X where(l:List ((Int)×List (Int)))(k i c:Int)(rows:List ((Int)×List (Int)))
def p0:Pt p0X where
 own:=[]
 t:=⟨[(1,.c (.ptr 0 0)),(22,.c (.arr (.pair (.int .i64) (.sl (.int .u64))))),(23,.c (.it .i64)),(24,.c (.it .i64))],[.st [.it .i64,.arr (.pair (.int .i64) (.sl (.int .u64)))] 1 0]⟩
 to:=λv=>⟨v.1.2.1,v.1.2.2.1,v.1.2.2.2.1,v.2.1.1,v.2.1.2.1⟩
 fr:=λx=>(((),(x.l,(x.k,(x.i,())))),((x.c,(x.rows,())),()))
abbrev q0X:=Unit
def q0:Pt q0X where
 own:=[]
 t:=⟨[],[]⟩
 to:=λv=>()
 fr:=λx=>((),())
structure z0X where(r:Int)
def z0:Pt z0X where
 own:=[]
 t:=⟨[(2,.c (.it .i64))],[]⟩
 to:=λv=>⟨v.1.1⟩
 fr:=λx=>((x.r,()),())
def s0(x:p0X):Option (p0X⊕(q0X⊕z0X)):=bif decide (x.i<x.k) then bif inR x.i x.l.length then bindO (M38.m ⟨(x.l[x.i.toNat]?.getD (0,[])).1,(x.l[x.i.toNat]?.getD (0,[])).2⟩) λy=>bif y !=0 then some (Sum.inr (Sum.inr ⟨y⟩)) else bif (x.l[x.i.toNat]?.getD (0,[])).1 !=x.c then some (Sum.inr (Sum.inr ⟨8⟩)) else some (Sum.inl ⟨x.l,x.k,IntKind.i64.wrap (x.i+1),x.c,x.rows⟩) else none else some (Sum.inr (Sum.inl PUnit.unit))
theorem QZ(x:p0X):exec E1 39 (C50.Q2 0) 1 (p0.R x) (p0.H x) (JF 0 p0 (.exit 0) q0 .ret z0)=s0 x:=by kernel_rfl
def l0:QU:=JG 0 p0 (.exit 0) q0 .ret z0 s0
theorem tl0:QI (C50.Q2 0) 1=[]:=by kernel_rfl
theorem Qa  :QH Try.prog 39 none 0 (C50.Q2 0) l0:=Qi mixed (Q5 QB Q3 _) (by trivial) (by trivial) (λ_=>rfl) (λ_=>rfl) (λ_=>rfl) (tl0▸QA.nil) QZ
def E0:Env:=⟨ty,QN cl,JH [(0,l0)],none⟩
def m(x:gX):Option fY:=bindO (M85.m ⟨x.c⟩) λy=>bif y !=0 then some y else bindO (M85.m ⟨(↑x.rows.length:Int)⟩) λy=>bif y !=0 then some y else bindO (iter s0 ⟨x.rows,(↑x.rows.length:Int),0,x.c,x.rows⟩) λs=>sumC s (λy=>some 0) λz=>some z.r
theorem QL(x:gX):exec E0 39 C50 0 (QP 0 (g.A x)) (g.H x) (finish 0 ty [.tmp 2] f)=m x:=by kernel_rfl
theorem tl:QI C50 0=[(0,C50.Q2 0)]:=by kernel_rfl
theorem known:QM Try.prog 50 g f m:=
 Q8 mixed (Q5 QB Q3 _) s50 rfl rfl tl (QA.cons rfl Qa QA.nil) (λ_ _=>⟨rfl,rfl⟩) (λ_ _=>⟨rfl,rfl⟩) QL
def con:Con:=J9 g f m default
theorem con_ok:QR Try.prog 50 con:=QG known (λ_=>rfl) rfl
end M50
namespace M29
structure gX where(c:Int)(rows:List ((Int)×List (Int)))(vn:Int)(vw:List (Int))
def g:Sg gX:=⟨[.agg [.it .i64,.arr (.pair (.int .i64) (.sl (.int .u64)))],.agg [.it .i64,.arr (.int .u64)]],[],λa b=>⟨a.1.1,a.1.2.1,a.2.1.1,a.2.1.2.1⟩,λx=>((x.c,(x.rows,())),((x.vn,(x.vw,())),())),λx=>()⟩
abbrev fY:=Int×List (Int)×Int
def f:Ft fY:=⟨none,.tup [.inr [.it .i64,.arr (.int .u64)],.inl (.it .i64)],[],λa b=>(a.1.1,a.1.2.1,a.2.1),λy=>((y.1,(y.2.1,())),(y.2.2,())),λy=>()⟩
def cl:List (FuncId×Con):=[(50,M50.con),(38,M38.con),(73,M73.con),(81,M81.con),(75,M75.con)]
theorem Q3:QF Try.prog cl:=⟨M50.con_ok,M38.con_ok,M73.con_ok,M81.con_ok,M75.con_ok,trivial⟩
def E1:Env:=⟨ty,QN cl,λ_=>none,none⟩
structure p0X where(l:List ((Int)×List (Int)))(k i c:Int)(rows:List ((Int)×List (Int)))(vn:Int)(vw ws:List (Int))(on:Int)(ow_lo ow_len ow_cap:Nat)
def p0:Pt p0X where
 own:=[]
 t:=⟨[(2,.c (.ptr 0 0)),(3,.c (.ptr 1 0)),(4,.c (.ptr 2 0)),(8,.c (.ptr 4 0)),(34,.c (.arr (.pair (.int .i64) (.sl (.int .u64))))),(35,.c (.it .i64)),(36,.c (.it .i64))],[.st [.it .i64,.arr (.pair (.int .i64) (.sl (.int .u64)))] 1 0,.st [.it .i64,.arr (.int .u64)] 1 0,.st [.junk,.junk] 1 0,.arr (.int .u64) 0,.st [.it .i64,.slc 3 0 1] 1 0]⟩
 to:=λv=>⟨v.1.2.2.2.2.1,v.1.2.2.2.2.2.1,v.1.2.2.2.2.2.2.1,v.2.1.1,v.2.1.2.1,v.2.2.1.1,v.2.2.1.2.1,v.2.2.2.2.1,v.2.2.2.2.2.1.1,v.2.2.2.2.2.1.2.1.1,v.2.2.2.2.2.1.2.1.2.1,v.2.2.2.2.2.1.2.1.2.2⟩
 fr:=λx=>(((),((),((),((),(x.l,(x.k,(x.i,()))))))),((x.c,(x.rows,())),((x.vn,(x.vw,())),(((),((),())),(x.ws,((x.on,((x.ow_lo,x.ow_len,x.ow_cap),())),()))))))
structure q0X where(c:Int)(rows:List ((Int)×List (Int)))(vn:Int)(vw ws:List (Int))(on:Int)(ow_lo ow_len ow_cap:Nat)
def q0:Pt q0X where
 own:=[]
 t:=⟨[(4,.c (.ptr 2 0)),(8,.c (.ptr 4 0))],[.st [.it .i64,.arr (.pair (.int .i64) (.sl (.int .u64)))] 1 0,.st [.it .i64,.arr (.int .u64)] 1 0,.st [.junk,.junk] 1 0,.arr (.int .u64) 0,.st [.it .i64,.slc 3 0 1] 1 0]⟩
 to:=λv=>⟨v.2.1.1,v.2.1.2.1,v.2.2.1.1,v.2.2.1.2.1,v.2.2.2.2.1,v.2.2.2.2.2.1.1,v.2.2.2.2.2.1.2.1.1,v.2.2.2.2.2.1.2.1.2.1,v.2.2.2.2.2.1.2.1.2.2⟩
 fr:=λx=>(((),((),())),((x.c,(x.rows,())),((x.vn,(x.vw,())),(((),((),())),(x.ws,((x.on,((x.ow_lo,x.ow_len,x.ow_cap),())),()))))))
def s0(x:p0X):Option (p0X⊕q0X):=bif decide (x.i<x.k) then bif inR x.i x.l.length then bindO (M81.m ⟨(x.l[x.i.toNat]?.getD (0,[])).1,(x.l[x.i.toNat]?.getD (0,[])).2,x.vn,x.vw⟩) λy=>bif y then bindO (M75.m ⟨x.on,x.ow_lo,x.ow_len,x.ow_cap,x.i,x.ws⟩) λy=>some (Sum.inl ⟨x.l,x.k,IntKind.i64.wrap (x.i+1),x.c,x.rows,x.vn,x.vw,y,x.on,x.ow_lo,x.ow_len,x.ow_cap⟩) else some (Sum.inl ⟨x.l,x.k,IntKind.i64.wrap (x.i+1),x.c,x.rows,x.vn,x.vw,x.ws,x.on,x.ow_lo,x.ow_len,x.ow_cap⟩) else none else some (Sum.inr ⟨x.c,x.rows,x.vn,x.vw,x.ws,x.on,x.ow_lo,x.ow_len,x.ow_cap⟩)
theorem QZ(x:p0X):exec E1 49 (C29.Q2 0) 1 (p0.R x) (p0.H x) (Qr 0 p0 (.exit 0) q0)=s0 x:=by kernel_rfl
def l0:QU:=Qs 0 p0 (.exit 0) q0 s0
theorem tl0:QI (C29.Q2 0) 1=[]:=by kernel_rfl
theorem Qa  :QH Try.prog 49 none 0 (C29.Q2 0) l0:=QS mixed (Q5 QB Q3 _) (by trivial) (λ_=>rfl) (λ_=>rfl) (tl0▸QA.nil) QZ
def E0:Env:=⟨ty,QN cl,JH [(0,l0)],none⟩
def m(x:gX):Option fY:=bindO (M50.m ⟨x.c,x.rows⟩) λy=>bif y !=0 then some (0,[],y) else bindO (M38.m ⟨x.vn,x.vw⟩) λy=>bif y !=0 then some (0,[],y) else bif x.vn !=x.c then some (0,[],8) else bindO (M73.m ⟨(↑x.rows.length:Int)⟩) λy=>bindO (iter s0 ⟨x.rows,(↑x.rows.length:Int),0,x.c,x.rows,x.vn,x.vw,y.2.2.2.2,y.1,y.2.1,y.2.2.1,y.2.2.2.1⟩) λy=>bif leB (y.ow_lo+y.ow_len) y.ws.length&&true&&true&&true&&true then some (y.on,List.take y.ow_len (List.drop y.ow_lo y.ws),0) else none
theorem QL(x:gX):exec E0 49 C29 0 (QP 0 (g.A x)) (g.H x) (finish 0 ty [.cell 4 34,.tmp 5] f)=m x:=by kernel_rfl
theorem tl:QI C29 0=[(0,C29.Q2 0)]:=by kernel_rfl
theorem known:QM Try.prog 29 g f m:=
 Q8 mixed (Q5 QB Q3 _) s29 rfl rfl tl (QA.cons rfl Qa QA.nil) (λ_ _=>⟨rfl,rfl⟩) (λ_ _=>⟨rfl,rfl⟩) QL
def con:Con:=J9 g f m default
theorem con_ok:QR Try.prog 29 con:=QG known (λ_=>rfl) rfl
end M29
namespace M39
structure gX where(ac:Int)(ar:List ((Int)×List (Int)))(bc:Int)(br:List ((Int)×List (Int)))
def g:Sg gX:=⟨[.agg [.it .i64,.arr (.pair (.int .i64) (.sl (.int .u64)))],.agg [.it .i64,.arr (.pair (.int .i64) (.sl (.int .u64)))]],[],λa b=>⟨a.1.1,a.1.2.1,a.2.1.1,a.2.1.2.1⟩,λx=>((x.ac,(x.ar,())),((x.bc,(x.br,())),())),λx=>()⟩
abbrev fY:=Int×(List ((Int)×List (Int)))×Int
def f:Ft fY:=⟨none,.tup [.inr [.it .i64,.arr (.pair (.int .i64) (.sl (.int .u64)))],.inl (.it .i64)],[],λa b=>(a.1.1,a.1.2.1,a.2.1),λy=>((y.1,(y.2.1,())),(y.2.2,())),λy=>()⟩
def cl:List (FuncId×Con):=[(50,M50.con),(73,M73.con),(74,M74.con),(80,M80.con)]
theorem Q3:QF Try.prog cl:=⟨M50.con_ok,M73.con_ok,M74.con_ok,M80.con_ok,trivial⟩
def E3:Env:=⟨ty,QN cl,λ_=>none,none⟩
structure p2X where(i0:Int)(l:List ((Int)×List (Int)))(k i:Int)(l2:List ((Int)×List (Int)))(k2 i2 ac:Int)(ar:List ((Int)×List (Int)))(bc:Int)(br out:List ((Int)×List (Int)))(oc:Int)(or__lo or__len or__cap:Nat)(xn:Int)(xw:List (Int))
def p2:Pt p2X where
 own:=[]
 t:=⟨[(2,.c (.ptr 0 0)),(3,.c (.ptr 1 0)),(4,.c (.ptr 2 0)),(9,.c (.ptr 4 0)),(10,.c (.it .i64)),(11,.c (.ptr 5 0)),(44,.c (.arr (.pair (.int .i64) (.sl (.int .u64))))),(45,.c (.it .i64)),(46,.c (.it .i64)),(59,.c (.arr (.pair (.int .i64) (.sl (.int .u64))))),(60,.c (.it .i64)),(61,.c (.it .i64))],[.st [.it .i64,.arr (.pair (.int .i64) (.sl (.int .u64)))] 1 0,.st [.it .i64,.arr (.pair (.int .i64) (.sl (.int .u64)))] 1 0,.st [.junk,.junk] 1 0,.arr (.pair (.int .i64) (.sl (.int .u64))) 0,.st [.it .i64,.slc 3 0 2] 1 0,.st [.it .i64,.arr (.int .u64)] 1 0]⟩
 to:=λv=>⟨v.1.2.2.2.2.1,v.1.2.2.2.2.2.2.1,v.1.2.2.2.2.2.2.2.1,v.1.2.2.2.2.2.2.2.2.1,v.1.2.2.2.2.2.2.2.2.2.1,v.1.2.2.2.2.2.2.2.2.2.2.1,v.1.2.2.2.2.2.2.2.2.2.2.2.1,v.2.1.1,v.2.1.2.1,v.2.2.1.1,v.2.2.1.2.1,v.2.2.2.2.1,v.2.2.2.2.2.1.1,v.2.2.2.2.2.1.2.1.1,v.2.2.2.2.2.1.2.1.2.1,v.2.2.2.2.2.1.2.1.2.2,v.2.2.2.2.2.2.1.1,v.2.2.2.2.2.2.1.2.1⟩
 fr:=λx=>(((),((),((),((),(x.i0,((),(x.l,(x.k,(x.i,(x.l2,(x.k2,(x.i2,())))))))))))),((x.ac,(x.ar,())),((x.bc,(x.br,())),(((),((),())),(x.out,((x.oc,((x.or__lo,x.or__len,x.or__cap),())),((x.xn,(x.xw,())),())))))))
structure q2X where(l:List ((Int)×List (Int)))(k i ac:Int)(ar:List ((Int)×List (Int)))(bc:Int)(br out:List ((Int)×List (Int)))(oc:Int)(or__lo or__len or__cap:Nat)
def q2:Pt q2X where
 own:=[]
 t:=⟨[(2,.c (.ptr 0 0)),(3,.c (.ptr 1 0)),(4,.c (.ptr 2 0)),(9,.c (.ptr 4 0)),(44,.c (.arr (.pair (.int .i64) (.sl (.int .u64))))),(45,.c (.it .i64)),(46,.c (.it .i64))],[.st [.it .i64,.arr (.pair (.int .i64) (.sl (.int .u64)))] 1 0,.st [.it .i64,.arr (.pair (.int .i64) (.sl (.int .u64)))] 1 0,.st [.junk,.junk] 1 0,.arr (.pair (.int .i64) (.sl (.int .u64))) 0,.st [.it .i64,.slc 3 0 2] 1 0]⟩
 to:=λv=>⟨v.1.2.2.2.2.1,v.1.2.2.2.2.2.1,v.1.2.2.2.2.2.2.1,v.2.1.1,v.2.1.2.1,v.2.2.1.1,v.2.2.1.2.1,v.2.2.2.2.1,v.2.2.2.2.2.1.1,v.2.2.2.2.2.1.2.1.1,v.2.2.2.2.2.1.2.1.2.1,v.2.2.2.2.2.1.2.1.2.2⟩
 fr:=λx=>(((),((),((),((),(x.l,(x.k,(x.i,()))))))),((x.ac,(x.ar,())),((x.bc,(x.br,())),(((),((),())),(x.out,((x.oc,((x.or__lo,x.or__len,x.or__cap),())),()))))))
def s2(x:p2X):Option (p2X⊕q2X):=bif decide (x.i2<x.k2) then bif inR x.i2 x.l2.length then bindO (M74.m ⟨x.xn,x.xw,x.i2⟩) λy=>bif y then bif inR x.i0 x.or__len then bif decide (x.or__lo+x.i0.toNat<x.out.length) then bindO (M80.m ⟨(x.out[x.or__lo+x.i0.toNat]?.getD (0,[])).1,(x.out[x.or__lo+x.i0.toNat]?.getD (0,[])).2,(x.l2[x.i2.toNat]?.getD (0,[])).1,(x.l2[x.i2.toNat]?.getD (0,[])).2⟩) λy=>bif inR x.i0 x.or__len then bif decide (x.or__lo+x.i0.toNat<x.out.length) then some (Sum.inl ⟨x.i0,x.l,x.k,x.i,x.l2,x.k2,IntKind.i64.wrap (x.i2+1),x.ac,x.ar,x.bc,x.br,x.out.set (x.or__lo+x.i0.toNat) (y.1,y.2),x.oc,x.or__lo,x.or__len,x.or__cap,x.xn,x.xw⟩) else none else none else none else none else some (Sum.inl ⟨x.i0,x.l,x.k,x.i,x.l2,x.k2,IntKind.i64.wrap (x.i2+1),x.ac,x.ar,x.bc,x.br,x.out,x.oc,x.or__lo,x.or__len,x.or__cap,x.xn,x.xw⟩) else none else some (Sum.inr ⟨x.l,x.k,x.i,x.ac,x.ar,x.bc,x.br,x.out,x.oc,x.or__lo,x.or__len,x.or__cap⟩)
theorem VI(x:p2X):exec E3 83 (C39.Q2 2) 3 (p2.R x) (p2.H x) (Qr 0 p2 (.exit 4) q2)=s2 x:=by kernel_rfl
def l2:QU:=Qs 0 p2 (.exit 4) q2 s2
theorem tl2:QI (C39.Q2 2) 3=[]:=by kernel_rfl
theorem Vi  :QH Try.prog 83 none 0 (C39.Q2 2) l2:=QS mixed (Q5 QB Q3 _) (by trivial) (λ_=>rfl) (λ_=>rfl) (tl2▸QA.nil) VI
def E2:Env:=⟨ty,QN cl,JH [(2,l2)],none⟩
structure p1X where(l:List ((Int)×List (Int)))(k i ac:Int)(ar:List ((Int)×List (Int)))(bc:Int)(br out:List ((Int)×List (Int)))(oc:Int)(or__lo or__len or__cap:Nat)
def p1:Pt p1X where
 own:=[]
 t:=⟨[(2,.c (.ptr 0 0)),(3,.c (.ptr 1 0)),(4,.c (.ptr 2 0)),(9,.c (.ptr 4 0)),(44,.c (.arr (.pair (.int .i64) (.sl (.int .u64))))),(45,.c (.it .i64)),(46,.c (.it .i64))],[.st [.it .i64,.arr (.pair (.int .i64) (.sl (.int .u64)))] 1 0,.st [.it .i64,.arr (.pair (.int .i64) (.sl (.int .u64)))] 1 0,.st [.junk,.junk] 1 0,.arr (.pair (.int .i64) (.sl (.int .u64))) 0,.st [.it .i64,.slc 3 0 2] 1 0]⟩
 to:=λv=>⟨v.1.2.2.2.2.1,v.1.2.2.2.2.2.1,v.1.2.2.2.2.2.2.1,v.2.1.1,v.2.1.2.1,v.2.2.1.1,v.2.2.1.2.1,v.2.2.2.2.1,v.2.2.2.2.2.1.1,v.2.2.2.2.2.1.2.1.1,v.2.2.2.2.2.1.2.1.2.1,v.2.2.2.2.2.1.2.1.2.2⟩
 fr:=λx=>(((),((),((),((),(x.l,(x.k,(x.i,()))))))),((x.ac,(x.ar,())),((x.bc,(x.br,())),(((),((),())),(x.out,((x.oc,((x.or__lo,x.or__len,x.or__cap),())),()))))))
structure q1X where(ac:Int)(ar:List ((Int)×List (Int)))(bc:Int)(br out:List ((Int)×List (Int)))(oc:Int)(or__lo or__len or__cap:Nat)
def q1:Pt q1X where
 own:=[]
 t:=⟨[(4,.c (.ptr 2 0)),(9,.c (.ptr 4 0))],[.st [.it .i64,.arr (.pair (.int .i64) (.sl (.int .u64)))] 1 0,.st [.it .i64,.arr (.pair (.int .i64) (.sl (.int .u64)))] 1 0,.st [.junk,.junk] 1 0,.arr (.pair (.int .i64) (.sl (.int .u64))) 0,.st [.it .i64,.slc 3 0 2] 1 0]⟩
 to:=λv=>⟨v.2.1.1,v.2.1.2.1,v.2.2.1.1,v.2.2.1.2.1,v.2.2.2.2.1,v.2.2.2.2.2.1.1,v.2.2.2.2.2.1.2.1.1,v.2.2.2.2.2.1.2.1.2.1,v.2.2.2.2.2.1.2.1.2.2⟩
 fr:=λx=>(((),((),())),((x.ac,(x.ar,())),((x.bc,(x.br,())),(((),((),())),(x.out,((x.oc,((x.or__lo,x.or__len,x.or__cap),())),()))))))
def s1(x:p1X):Option (p1X⊕q1X):=bif decide (x.i<x.k) then bif inR x.i x.l.length then bindO (M73.m ⟨x.bc⟩) λy=>bif inR x.i x.or__len then bif decide (x.or__lo+x.i.toNat<x.out.length) then bif leB (y.2.1+y.2.2.1) y.2.2.2.2.length&&true&&true then bindO (iter s2 ⟨x.i,x.l,x.k,x.i,x.br,(↑x.br.length:Int),0,x.ac,x.ar,x.bc,x.br,List.take (x.or__lo+x.i.toNat) x.out++(y.1,List.take y.2.2.1 (List.drop y.2.1 y.2.2.2.2))::List.drop (x.or__lo+x.i.toNat+1) x.out,x.oc,x.or__lo,x.or__len,x.or__cap,(x.l[x.i.toNat]?.getD (0,[])).1,(x.l[x.i.toNat]?.getD (0,[])).2⟩) λy=>some (Sum.inl ⟨y.l,y.k,IntKind.i64.wrap (y.i+1),y.ac,y.ar,y.bc,y.br,y.out,y.oc,y.or__lo,y.or__len,y.or__cap⟩) else none else none else none else none else some (Sum.inr ⟨x.ac,x.ar,x.bc,x.br,x.out,x.oc,x.or__lo,x.or__len,x.or__cap⟩)
theorem X3(x:p1X):exec E2 83 (C39.Q2 1) 2 (p1.R x) (p1.H x) (Qr 0 p1 (.exit 2) q1)=s1 x:=by kernel_rfl
def l1:QU:=Qs 0 p1 (.exit 2) q1 s1
theorem tl1:QI (C39.Q2 1) 2=[(2,C39.Q2 2)]:=by kernel_rfl
theorem X6  :QH Try.prog 83 none 0 (C39.Q2 1) l1:=QS mixed (Q5 QB Q3 _) (by trivial) (λ_=>rfl) (λ_=>rfl) (tl1▸(QA.cons rfl Vi QA.nil)) X3
def E1:Env:=⟨ty,QN cl,JH [(1,l1),(2,l2)],none⟩
structure p0X where(l:List ((Int)×List ((Int)×List (Int))))(k i ac:Int)(ar:List ((Int)×List (Int)))(bc:Int)(br:List ((Int)×List (Int)))
def p0:Pt p0X where
 own:=[]
 t:=⟨[(2,.c (.ptr 0 0)),(3,.c (.ptr 1 0)),(4,.c (.ptr 2 0)),(16,.c (.arr (.pair (.int .i64) (.sl (.pair (.int .i64) (.sl (.int .u64))))))),(17,.c (.it .i64)),(18,.c (.it .i64))],[.st [.it .i64,.arr (.pair (.int .i64) (.sl (.int .u64)))] 1 0,.st [.it .i64,.arr (.pair (.int .i64) (.sl (.int .u64)))] 1 0,.st [.junk,.junk] 1 0]⟩
 to:=λv=>⟨v.1.2.2.2.1,v.1.2.2.2.2.1,v.1.2.2.2.2.2.1,v.2.1.1,v.2.1.2.1,v.2.2.1.1,v.2.2.1.2.1⟩
 fr:=λx=>(((),((),((),(x.l,(x.k,(x.i,())))))),((x.ac,(x.ar,())),((x.bc,(x.br,())),(((),((),())),()))))
structure q0X where(ac:Int)(ar:List ((Int)×List (Int)))(bc:Int)(br:List ((Int)×List (Int)))
def q0:Pt q0X where
 own:=[]
 t:=⟨[(2,.c (.ptr 0 0)),(3,.c (.ptr 1 0)),(4,.c (.ptr 2 0))],[.st [.it .i64,.arr (.pair (.int .i64) (.sl (.int .u64)))] 1 0,.st [.it .i64,.arr (.pair (.int .i64) (.sl (.int .u64)))] 1 0,.st [.junk,.junk] 1 0]⟩
 to:=λv=>⟨v.2.1.1,v.2.1.2.1,v.2.2.1.1,v.2.2.1.2.1⟩
 fr:=λx=>(((),((),((),()))),((x.ac,(x.ar,())),((x.bc,(x.br,())),(((),((),())),()))))
structure z0X where(e rc:Int)
def z0:Pt z0X where
 own:=[]
 t:=⟨[(4,.c (.ptr 2 0)),(5,.c (.it .i64))],[.st [.junk,.junk] 1 0,.st [.junk,.junk] 1 0,.st [.it .i64,.nils] 1 0]⟩
 to:=λv=>⟨v.1.2.1,v.2.2.2.1.1⟩
 fr:=λx=>(((),(x.e,())),(((),((),())),(((),((),())),((x.rc,((),())),()))))
def s0(x:p0X):Option (p0X⊕(q0X⊕z0X)):=bif decide (x.i<x.k) then bif inR x.i x.l.length then bindO (M50.m ⟨(x.l[x.i.toNat]?.getD (0,[])).1,(x.l[x.i.toNat]?.getD (0,[])).2⟩) λy=>bif y !=0 then some (Sum.inr (Sum.inr ⟨y,0⟩)) else some (Sum.inl ⟨x.l,x.k,IntKind.i64.wrap (x.i+1),x.ac,x.ar,x.bc,x.br⟩) else none else some (Sum.inr (Sum.inl ⟨x.ac,x.ar,x.bc,x.br⟩))
theorem QZ(x:p0X):exec E1 83 (C39.Q2 0) 1 (p0.R x) (p0.H x) (JF 0 p0 (.exit 0) q0 .ret z0)=s0 x:=by kernel_rfl
def l0:QU:=JG 0 p0 (.exit 0) q0 .ret z0 s0
theorem tl0:QI (C39.Q2 0) 1=[]:=by kernel_rfl
theorem Qa  :QH Try.prog 83 none 0 (C39.Q2 0) l0:=Qi mixed (Q5 QB Q3 _) (by trivial) (by trivial) (λ_=>rfl) (λ_=>rfl) (λ_=>rfl) (tl0▸QA.nil) QZ
def E0:Env:=⟨ty,QN cl,JH [(0,l0),(1,l1),(2,l2)],none⟩
def m(x:gX):Option fY:=bindO (iter s0 ⟨[(x.ac,x.ar),(x.bc,x.br)],(↑2:Int),0,x.ac,x.ar,x.bc,x.br⟩) λs=>sumC s (λy=>bif y.ac !=(↑y.br.length:Int) then some (0,[],8) else bif decide (0<=(↑y.ar.length:Int))&&decide ((↑y.ar.length:Int)<=(↑y.ar.length:Int))&&decide ((↑y.ar.length:Int)*(↑32:Int)<=281474976710656)&&decide ((↑y.ar.length:Int)<=9223372036854775807) then bindO (iter s1 ⟨y.ar,(↑y.ar.length:Int),0,y.ac,y.ar,y.bc,y.br,List.replicate (↑y.ar.length:Int).toNat (0,[]),y.bc,0,(↑y.ar.length:Int).toNat,(↑y.ar.length:Int).toNat⟩) λy=>bif leB (y.or__lo+y.or__len) y.out.length&&true&&true&&true&&true then some (y.oc,List.take y.or__len (List.drop y.or__lo y.out),0) else none else none) λz=>some (z.rc,[],z.e)
theorem QL(x:gX):exec E0 83 C39 0 (QP 0 (g.A x)) (g.H x) (finish 0 ty [.cell 4 40,.tmp 5] f)=m x:=by kernel_rfl
theorem tl:QI C39 0=[(0,C39.Q2 0),(1,C39.Q2 1)]:=by kernel_rfl
theorem known:QM Try.prog 39 g f m:=
 Q8 mixed (Q5 QB Q3 _) s39 rfl rfl tl (QA.cons rfl Qa (QA.cons rfl X6 QA.nil)) (λ_ _=>⟨rfl,rfl⟩) (λ_ _=>⟨rfl,rfl⟩) QL
def con:Con:=J9 g f m default
theorem con_ok:QR Try.prog 39 con:=QG known (λ_=>rfl) rfl
end M39
namespace M101
structure gX where(i k:Int)(rows_lo rows_len rows_cap more_lo more_len more_cap piv_lo piv_len:Nat)(rs ms:List ((Int)×List (Int)))(ps:List (Int))
def g:Sg gX:=⟨[.c (.ptr 0 0),.c (.it .i64),.c (.it .i64)],[.st [.slc 1 0 2,.slc 2 0 2,.sl 3 0 1] 1 0,.arr (.pair (.int .i64) (.sl (.int .u64))) 0,.arr (.pair (.int .i64) (.sl (.int .u64))) 0,.arr (.int .i64) 0],λa b=>⟨a.2.1,a.2.2.1,b.1.1.1,b.1.1.2.1,b.1.1.2.2,b.1.2.1.1,b.1.2.1.2.1,b.1.2.1.2.2,b.1.2.2.1.1,b.1.2.2.1.2,b.2.1,b.2.2.1,b.2.2.2.1⟩,λx=>((),(x.i,(x.k,()))),λx=>(((x.rows_lo,x.rows_len,x.rows_cap),((x.more_lo,x.more_len,x.more_cap),((x.piv_lo,x.piv_len),()))),(x.rs,(x.ms,(x.ps,()))))⟩
abbrev fY:=Nat×Nat×Nat×Nat×Nat×Nat×Nat×Nat×(List ((Int)×List (Int)))×(List ((Int)×List (Int)))×List (Int)
def f:Ft fY:=⟨none,.tup [],[.st [.slc 1 0 2,.slc 2 0 2,.sl 3 0 1] 1 0,.arr (.pair (.int .i64) (.sl (.int .u64))) 0,.arr (.pair (.int .i64) (.sl (.int .u64))) 0,.arr (.int .i64) 0],λa b=>(b.1.1.1,b.1.1.2.1,b.1.1.2.2,b.1.2.1.1,b.1.2.1.2.1,b.1.2.1.2.2,b.1.2.2.1.1,b.1.2.2.1.2,b.2.1,b.2.2.1,b.2.2.2.1),λy=>(),λy=>(((y.1,y.2.1,y.2.2.1),((y.2.2.2.1,y.2.2.2.2.1,y.2.2.2.2.2.1),((y.2.2.2.2.2.2.1,y.2.2.2.2.2.2.2.1),()))),(y.2.2.2.2.2.2.2.2.1,(y.2.2.2.2.2.2.2.2.2.1,(y.2.2.2.2.2.2.2.2.2.2,()))))⟩
def cl:List (FuncId×Con):=[]
theorem Q3:QF Try.prog cl:=trivial
def E0:Env:=⟨ty,QN cl,λ_=>none,none⟩
def m(x:gX):Option fY:=bif inR x.k x.rows_len then bif decide (x.rows_lo+x.k.toNat<x.rs.length) then bif inR x.i x.rows_len then bif decide (x.rows_lo+x.i.toNat<x.rs.length) then bif inR x.i x.rows_len then bif decide (x.rows_lo+x.i.toNat<x.rs.length) then bif inR x.k x.rows_len then bif decide (x.rows_lo+x.k.toNat<(x.rs.set (x.rows_lo+x.i.toNat) ((x.rs[x.rows_lo+x.k.toNat]?.getD (0,[])).1,(x.rs[x.rows_lo+x.k.toNat]?.getD (0,[])).2)).length) then bif decide ((↑x.more_len:Int)>0) then bif inR x.k x.more_len then bif decide (x.more_lo+x.k.toNat<x.ms.length) then bif inR x.i x.more_len then bif decide (x.more_lo+x.i.toNat<x.ms.length) then bif inR x.i x.more_len then bif decide (x.more_lo+x.i.toNat<x.ms.length) then bif inR x.k x.more_len then bif decide (x.more_lo+x.k.toNat<(x.ms.set (x.more_lo+x.i.toNat) ((x.ms[x.more_lo+x.k.toNat]?.getD (0,[])).1,(x.ms[x.more_lo+x.k.toNat]?.getD (0,[])).2)).length) then some (x.rows_lo,x.rows_len,x.rows_cap,x.more_lo,x.more_len,x.more_cap,x.piv_lo,x.piv_len,(x.rs.set (x.rows_lo+x.i.toNat) ((x.rs[x.rows_lo+x.k.toNat]?.getD (0,[])).1,(x.rs[x.rows_lo+x.k.toNat]?.getD (0,[])).2)).set (x.rows_lo+x.k.toNat) ((x.rs[x.rows_lo+x.i.toNat]?.getD (0,[])).1,(x.rs[x.rows_lo+x.i.toNat]?.getD (0,[])).2),(x.ms.set (x.more_lo+x.i.toNat) ((x.ms[x.more_lo+x.k.toNat]?.getD (0,[])).1,(x.ms[x.more_lo+x.k.toNat]?.getD (0,[])).2)).set (x.more_lo+x.k.toNat) ((x.ms[x.more_lo+x.i.toNat]?.getD (0,[])).1,(x.ms[x.more_lo+x.i.toNat]?.getD (0,[])).2),x.ps) else none else none else none else none else none else none else none else none else some (x.rows_lo,x.rows_len,x.rows_cap,x.more_lo,x.more_len,x.more_cap,x.piv_lo,x.piv_len,(x.rs.set (x.rows_lo+x.i.toNat) ((x.rs[x.rows_lo+x.k.toNat]?.getD (0,[])).1,(x.rs[x.rows_lo+x.k.toNat]?.getD (0,[])).2)).set (x.rows_lo+x.k.toNat) ((x.rs[x.rows_lo+x.i.toNat]?.getD (0,[])).1,(x.rs[x.rows_lo+x.i.toNat]?.getD (0,[])).2),x.ms,x.ps) else none else none else none else none else none else none else none else none
theorem QL(x:gX):exec E0 64 C101 0 (QP 0 (g.A x)) (g.H x) (finish 4 ty [] f)=m x:=by kernel_rfl
theorem tl:QI C101 0=[]:=by kernel_rfl
theorem known:QM Try.prog 101 g f m:=
 Q8 mixed (Q5 QB Q3 _) s101 rfl rfl tl QA.nil (λ_ _=>⟨rfl,rfl⟩) (λ_ _=>⟨rfl,rfl⟩) QL
def con:Con:=UP g [.arg 0 0,.cell 0 0,.cell 0 1,.cell 0 2] f m default
theorem con_ok:QR Try.prog 101 con:=XX known
end M101
namespace M102
structure gX where(top k:Int)(rows_lo rows_len rows_cap more_lo more_len more_cap piv_lo piv_len:Nat)(rs ms:List ((Int)×List (Int)))(ps:List (Int))
def g:Sg gX:=⟨[.c (.ptr 0 0),.c (.it .i64),.c (.it .i64)],[.st [.slc 1 0 2,.slc 2 0 2,.sl 3 0 1] 1 0,.arr (.pair (.int .i64) (.sl (.int .u64))) 0,.arr (.pair (.int .i64) (.sl (.int .u64))) 0,.arr (.int .i64) 0],λa b=>⟨a.2.1,a.2.2.1,b.1.1.1,b.1.1.2.1,b.1.1.2.2,b.1.2.1.1,b.1.2.1.2.1,b.1.2.1.2.2,b.1.2.2.1.1,b.1.2.2.1.2,b.2.1,b.2.2.1,b.2.2.2.1⟩,λx=>((),(x.top,(x.k,()))),λx=>(((x.rows_lo,x.rows_len,x.rows_cap),((x.more_lo,x.more_len,x.more_cap),((x.piv_lo,x.piv_len),()))),(x.rs,(x.ms,(x.ps,()))))⟩
abbrev fY:=Nat×Nat×Nat×Nat×Nat×Nat×Nat×Nat×(List ((Int)×List (Int)))×(List ((Int)×List (Int)))×List (Int)
def f:Ft fY:=⟨none,.tup [],[.st [.slc 1 0 2,.slc 2 0 2,.sl 3 0 1] 1 0,.arr (.pair (.int .i64) (.sl (.int .u64))) 0,.arr (.pair (.int .i64) (.sl (.int .u64))) 0,.arr (.int .i64) 0],λa b=>(b.1.1.1,b.1.1.2.1,b.1.1.2.2,b.1.2.1.1,b.1.2.1.2.1,b.1.2.1.2.2,b.1.2.2.1.1,b.1.2.2.1.2,b.2.1,b.2.2.1,b.2.2.2.1),λy=>(),λy=>(((y.1,y.2.1,y.2.2.1),((y.2.2.2.1,y.2.2.2.2.1,y.2.2.2.2.2.1),((y.2.2.2.2.2.2.1,y.2.2.2.2.2.2.2.1),()))),(y.2.2.2.2.2.2.2.2.1,(y.2.2.2.2.2.2.2.2.2.1,(y.2.2.2.2.2.2.2.2.2.2,()))))⟩
def cl:List (FuncId×Con):=[(74,M74.con),(80,M80.con)]
theorem Q3:QF Try.prog cl:=⟨M74.con_ok,M80.con_ok,trivial⟩
def E1:Env:=⟨ty,QN cl,λ_=>none,none⟩
structure p0X where(top k n i:Int)(rows_lo rows_len rows_cap more_lo more_len more_cap piv_lo piv_len:Nat)(rs ms:List ((Int)×List (Int)))(ps:List (Int))
def p0:Pt p0X where
 own:=[]
 t:=⟨[(0,.c (.ptr 0 0)),(1,.c (.it .i64)),(2,.c (.it .i64)),(11,.c (.it .i64)),(12,.c (.it .i64))],[.st [.slc 1 0 2,.slc 2 0 2,.sl 3 0 1] 1 0,.arr (.pair (.int .i64) (.sl (.int .u64))) 0,.arr (.pair (.int .i64) (.sl (.int .u64))) 0,.arr (.int .i64) 0]⟩
 to:=λv=>⟨v.1.2.1,v.1.2.2.1,v.1.2.2.2.1,v.1.2.2.2.2.1,v.2.1.1.1,v.2.1.1.2.1,v.2.1.1.2.2,v.2.1.2.1.1,v.2.1.2.1.2.1,v.2.1.2.1.2.2,v.2.1.2.2.1.1,v.2.1.2.2.1.2,v.2.2.1,v.2.2.2.1,v.2.2.2.2.1⟩
 fr:=λx=>(((),(x.top,(x.k,(x.n,(x.i,()))))),(((x.rows_lo,x.rows_len,x.rows_cap),((x.more_lo,x.more_len,x.more_cap),((x.piv_lo,x.piv_len),()))),(x.rs,(x.ms,(x.ps,())))))
structure q0X where(rows_lo rows_len rows_cap more_lo more_len more_cap piv_lo piv_len:Nat)(rs ms:List ((Int)×List (Int)))(ps:List (Int))
def q0:Pt q0X where
 own:=[]
 t:=⟨[],[.st [.slc 1 0 2,.slc 2 0 2,.sl 3 0 1] 1 0,.arr (.pair (.int .i64) (.sl (.int .u64))) 0,.arr (.pair (.int .i64) (.sl (.int .u64))) 0,.arr (.int .i64) 0]⟩
 to:=λv=>⟨v.2.1.1.1,v.2.1.1.2.1,v.2.1.1.2.2,v.2.1.2.1.1,v.2.1.2.1.2.1,v.2.1.2.1.2.2,v.2.1.2.2.1.1,v.2.1.2.2.1.2,v.2.2.1,v.2.2.2.1,v.2.2.2.2.1⟩
 fr:=λx=>((),(((x.rows_lo,x.rows_len,x.rows_cap),((x.more_lo,x.more_len,x.more_cap),((x.piv_lo,x.piv_len),()))),(x.rs,(x.ms,(x.ps,())))))
def s0(x:p0X):Option (p0X⊕q0X):=bif decide (x.i<x.n) then bif inR x.i x.rows_len||!!x.i==x.top then bif decide (x.rows_lo+x.i.toNat<x.rs.length)||!!x.i==x.top then bindO (bif !x.i==x.top then M74.m ⟨(x.rs[x.rows_lo+x.i.toNat]?.getD (0,[])).1,(x.rs[x.rows_lo+x.i.toNat]?.getD (0,[])).2,x.k⟩ else some false) λy=>bif bif x.i==x.top then true else !y then some (Sum.inl ⟨x.top,x.k,x.n,IntKind.i64.wrap (x.i+1),x.rows_lo,x.rows_len,x.rows_cap,x.more_lo,x.more_len,x.more_cap,x.piv_lo,x.piv_len,x.rs,x.ms,x.ps⟩) else bif inR x.i x.rows_len then bif decide (x.rows_lo+x.i.toNat<x.rs.length) then bif inR x.top x.rows_len then bif decide (x.rows_lo+x.top.toNat<x.rs.length) then bindO (M80.m ⟨(x.rs[x.rows_lo+x.i.toNat]?.getD (0,[])).1,(x.rs[x.rows_lo+x.i.toNat]?.getD (0,[])).2,(x.rs[x.rows_lo+x.top.toNat]?.getD (0,[])).1,(x.rs[x.rows_lo+x.top.toNat]?.getD (0,[])).2⟩) λy=>bif inR x.i x.rows_len then bif decide (x.rows_lo+x.i.toNat<x.rs.length) then bif decide ((↑x.more_len:Int)>0) then bif inR x.i x.more_len then bif decide (x.more_lo+x.i.toNat<x.ms.length) then bif inR x.top x.more_len then bif decide (x.more_lo+x.top.toNat<x.ms.length) then bindO (M80.m ⟨(x.ms[x.more_lo+x.i.toNat]?.getD (0,[])).1,(x.ms[x.more_lo+x.i.toNat]?.getD (0,[])).2,(x.ms[x.more_lo+x.top.toNat]?.getD (0,[])).1,(x.ms[x.more_lo+x.top.toNat]?.getD (0,[])).2⟩) λy_1=>bif inR x.i x.more_len then bif decide (x.more_lo+x.i.toNat<x.ms.length) then some (Sum.inl ⟨x.top,x.k,x.n,IntKind.i64.wrap (x.i+1),x.rows_lo,x.rows_len,x.rows_cap,x.more_lo,x.more_len,x.more_cap,x.piv_lo,x.piv_len,x.rs.set (x.rows_lo+x.i.toNat) (y.1,y.2),x.ms.set (x.more_lo+x.i.toNat) (y_1.1,y_1.2),x.ps⟩) else none else none else none else none else none else none else some (Sum.inl ⟨x.top,x.k,x.n,IntKind.i64.wrap (x.i+1),x.rows_lo,x.rows_len,x.rows_cap,x.more_lo,x.more_len,x.more_cap,x.piv_lo,x.piv_len,x.rs.set (x.rows_lo+x.i.toNat) (y.1,y.2),x.ms,x.ps⟩) else none else none else none else none else none else none else none else none else some (Sum.inr ⟨x.rows_lo,x.rows_len,x.rows_cap,x.more_lo,x.more_len,x.more_cap,x.piv_lo,x.piv_len,x.rs,x.ms,x.ps⟩)
theorem QZ(x:p0X):exec E1 79 (C102.Q2 0) 1 (p0.R x) (p0.H x) (Qr 4 p0 (.exit 0) q0)=s0 x:=by kernel_rfl
def l0:QU:=Qs 4 p0 (.exit 0) q0 s0
theorem tl0:QI (C102.Q2 0) 1=[]:=by kernel_rfl
theorem Qa  :QH Try.prog 79 none 4 (C102.Q2 0) l0:=QS mixed (Q5 QB Q3 _) (by trivial) (λ_=>rfl) (λ_=>rfl) (tl0▸QA.nil) QZ
def E0:Env:=⟨ty,QN cl,JH [(0,l0)],none⟩
def m(x:gX):Option fY:=bindO (iter s0 ⟨x.top,x.k,(↑x.rows_len:Int),0,x.rows_lo,x.rows_len,x.rows_cap,x.more_lo,x.more_len,x.more_cap,x.piv_lo,x.piv_len,x.rs,x.ms,x.ps⟩) λy=>some (y.rows_lo,y.rows_len,y.rows_cap,y.more_lo,y.more_len,y.more_cap,y.piv_lo,y.piv_len,y.rs,y.ms,y.ps)
theorem QL(x:gX):exec E0 79 C102 0 (QP 0 (g.A x)) (g.H x) (finish 4 ty [] f)=m x:=by kernel_rfl
theorem tl:QI C102 0=[(0,C102.Q2 0)]:=by kernel_rfl
theorem known:QM Try.prog 102 g f m:=
 Q8 mixed (Q5 QB Q3 _) s102 rfl rfl tl (QA.cons rfl Qa QA.nil) (λ_ _=>⟨rfl,rfl⟩) (λ_ _=>⟨rfl,rfl⟩) QL
def con:Con:=UP g [.arg 0 0,.cell 0 0,.cell 0 1,.cell 0 2] f m default
theorem con_ok:QR Try.prog 102 con:=XX known
end M102
