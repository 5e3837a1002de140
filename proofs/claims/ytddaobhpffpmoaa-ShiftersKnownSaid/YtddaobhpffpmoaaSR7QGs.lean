/- A part of the proof. -/
import Derived.Test.YtddaobhpffpmoaaSR7QGa
import Derived.Test.YtddaobhpffpmoaaSR7QGb
import Derived.Test.YtddaobhpffpmoaaSR7QG9
set_option linter.all false
set_option maxRecDepth 100000
noncomputable section
namespace Go.Proofs.Ytddaobhpffpmoaa
open Go.Abs
namespace M110
structure gX where(x:Int)
def g:Sg gX:=⟨[.c (.it .u64)],[],λa b=>⟨a.1⟩,λx=>(x.x,()),λx=>()⟩
abbrev fY:=Int
def f:Ft fY:=⟨none,.c (.it .u64),[],λa b=>(a),λy=>y,λy=>()⟩
def cl:List (FuncId×Con):=[(108,M108.con)]
theorem Q3:QF Try.prog cl:=⟨M108.con_ok,trivial⟩
def E0:Env:=⟨ty,QN cl,λ_=>none,none⟩
def m(x:gX):Option fY:=bindO (M108.m ⟨x.x⟩) λy=>some (IntKind.u64.wrap (Int.tmod y 2))
theorem QL(x:gX):exec E0 7 C110 0 (QP 0 (g.A x)) (g.H x) (finish 0 ty [.tmp 2] f)=m x:=by kernel_rfl
theorem tl:QI C110 0=[]:=by kernel_rfl
theorem known:QM Try.prog 110 g f m:=
 Q8 mixed (Q5 QB Q3 _) s110 rfl rfl tl QA.nil (λ_ _=>⟨rfl,rfl⟩) (λ_ _=>⟨rfl,rfl⟩) QL
def con:Con:=J9 g f m default
theorem con_ok:QR Try.prog 110 con:=QG known (λ_=>rfl) rfl
end M110
namespace M93
structure gX where(n t s:Int)
def g:Sg gX:=⟨[.c (.ptr 0 0)],[.st [.it .i64,.it .u64,.it .u64] 1 0],λa b=>⟨b.1.1,b.1.2.1,b.1.2.2.1⟩,λx=>((),()),λx=>((x.n,(x.t,(x.s,()))),())⟩
abbrev fY:=Int×Int×Int
def f:Ft fY:=⟨none,.tup [],[.st [.it .i64,.it .u64,.it .u64] 1 0],λa b=>(b.1.1,b.1.2.1,b.1.2.2.1),λy=>(),λy=>((y.1,(y.2.1,(y.2.2,()))),())⟩
def cl:List (FuncId×Con):=[(110,M110.con)]
theorem Q3:QF Try.prog cl:=⟨M110.con_ok,trivial⟩
def E0:Env:=⟨ty,QN cl,λ_=>none,none⟩
def m(x:gX):Option fY:=bindO (M110.m ⟨IntKind.u64.wrap (↑(BitVec.ofInt 64 x.s&&&BitVec.ofInt 64 x.t).toNat:Int)⟩) λy=>bif decide (x.n<64) then bif decide (0<=x.n) then some (x.n,x.t,IntKind.u64.wrap (↑(BitVec.ofInt 64 (IntKind.u64.wrap (↑(BitVec.ofInt 64 (IntKind.u64.wrap (x.s*2^1))|||BitVec.ofInt 64 y).toNat:Int))&&&BitVec.ofInt 64 (IntKind.u64.wrap (IntKind.u64.wrap (1*2^min x.n.toNat 64) - 1))).toNat:Int)) else none else some (x.n,x.t,IntKind.u64.wrap (↑(BitVec.ofInt 64 (IntKind.u64.wrap (x.s*2^1))|||BitVec.ofInt 64 y).toNat:Int))
theorem QL(x:gX):exec E0 42 C93 0 (QP 0 (g.A x)) (g.H x) (finish 1 ty [] f)=m x:=by kernel_rfl
theorem tl:QI C93 0=[]:=by kernel_rfl
theorem known:QM Try.prog 93 g f m:=
 Q8 mixed (Q5 QB Q3 _) s93 rfl rfl tl QA.nil (λ_ _=>⟨rfl,rfl⟩) (λ_ _=>⟨rfl,rfl⟩) QL
def con:Con:=UP g [.arg 0 0] f m default
theorem con_ok:QR Try.prog 93 con:=XX known
end M93
namespace M100
structure gX where(x n:Int)
def g:Sg gX:=⟨[.c (.it .u64),.c (.it .i64)],[],λa b=>⟨a.1,a.2.1⟩,λx=>(x.x,(x.n,())),λx=>()⟩
abbrev fY:=Bool
def f:Ft fY:=⟨none,.c (.bo),[],λa b=>(a),λy=>y,λy=>()⟩
def cl:List (FuncId×Con):=[]
theorem Q3:QF Try.prog cl:=trivial
def E0:Env:=⟨ty,QN cl,λ_=>none,none⟩
def m(x:gX):Option fY:=bif decide (0<=x.n)||!decide (x.n<64) then some (bif decide (x.n<64) then x.x.fdiv (2^min x.n.toNat 64) !=0 else false) else none
theorem QL(x:gX):exec E0 13 C100 0 (QP 0 (g.A x)) (g.H x) (finish 0 ty [.tmp 4] f)=m x:=by kernel_rfl
theorem tl:QI C100 0=[]:=by kernel_rfl
theorem known:QM Try.prog 100 g f m:=
 Q8 mixed (Q5 QB Q3 _) s100 rfl rfl tl QA.nil (λ_ _=>⟨rfl,rfl⟩) (λ_ _=>⟨rfl,rfl⟩) QL
def con:Con:=J9 g f m default
theorem con_ok:QR Try.prog 100 con:=QG known (λ_=>rfl) rfl
end M100
namespace M71
structure gX where(n t:Int)
def g:Sg gX:=⟨[.agg [.it .i64,.it .u64]],[],λa b=>⟨a.1.1,a.1.2.1⟩,λx=>((x.n,(x.t,())),()),λx=>()⟩
abbrev fY:=Int
def f:Ft fY:=⟨none,.c (.it .i64),[],λa b=>(a),λy=>y,λy=>()⟩
def cl:List (FuncId×Con):=[(100,M100.con)]
theorem Q3:QF Try.prog cl:=⟨M100.con_ok,trivial⟩
def E0:Env:=⟨ty,QN cl,λ_=>none,none⟩
def m(x:gX):Option fY:=bif decide (x.n<1) then some 1 else bif decide (x.n>64) then some 3 else bindO (M100.m ⟨x.t,x.n⟩) λy=>bif decide (0<=IntKind.i64.wrap (x.n - 1))||!!y then bif bif y then true else x.t.fdiv (2^min (IntKind.i64.wrap (x.n - 1)).toNat 64)==0 then some 1 else some 0 else none
theorem QL(x:gX):exec E0 26 C71 0 (QP 0 (g.A x)) (g.H x) (finish 0 ty [.tmp 2] f)=m x:=by kernel_rfl
theorem tl:QI C71 0=[]:=by kernel_rfl
theorem known:QM Try.prog 71 g f m:=
 Q8 mixed (Q5 QB Q3 _) s71 rfl rfl tl QA.nil (λ_ _=>⟨rfl,rfl⟩) (λ_ _=>⟨rfl,rfl⟩) QL
def con:Con:=J9 g f m default
theorem con_ok:QR Try.prog 71 con:=QG known (λ_=>rfl) rfl
end M71
namespace M91
structure gX where(n t s:Int)
def g:Sg gX:=⟨[.agg [.it .i64,.it .u64],.c (.it .u64)],[],λa b=>⟨a.1.1,a.1.2.1,a.2.1⟩,λx=>((x.n,(x.t,())),(x.s,())),λx=>()⟩
abbrev fY:=Int×Int×Int×Int
def f:Ft fY:=⟨none,.tup [.inr [.it .i64,.it .u64,.it .u64],.inl (.it .i64)],[],λa b=>(a.1.1,a.1.2.1,a.1.2.2.1,a.2.1),λy=>((y.1,(y.2.1,(y.2.2.1,()))),(y.2.2.2,())),λy=>()⟩
def cl:List (FuncId×Con):=[(71,M71.con),(100,M100.con)]
theorem Q3:QF Try.prog cl:=⟨M71.con_ok,M100.con_ok,trivial⟩
def E0:Env:=⟨ty,QN cl,λ_=>none,none⟩
def m(x:gX):Option fY:=bindO (M71.m ⟨x.n,x.t⟩) λy=>bif y !=0 then some (0,0,0,y) else bindO (M100.m ⟨x.s,x.n⟩) λy=>bif y then some (0,0,0,1) else some (x.n,x.t,x.s,0)
theorem QL(x:gX):exec E0 21 C91 0 (QP 0 (g.A x)) (g.H x) (finish 0 ty [.cell 4 156,.tmp 5] f)=m x:=by kernel_rfl
theorem tl:QI C91 0=[]:=by kernel_rfl
theorem known:QM Try.prog 91 g f m:=
 Q8 mixed (Q5 QB Q3 _) s91 rfl rfl tl QA.nil (λ_ _=>⟨rfl,rfl⟩) (λ_ _=>⟨rfl,rfl⟩) QL
def con:Con:=J9 g f m default
theorem con_ok:QR Try.prog 91 con:=QG known (λ_=>rfl) rfl
end M91
namespace M58
structure gX where(n t s:Int)
def g:Sg gX:=⟨[.agg [.it .i64,.it .u64],.c (.it .u64)],[],λa b=>⟨a.1.1,a.1.2.1,a.2.1⟩,λx=>((x.n,(x.t,())),(x.s,())),λx=>()⟩
abbrev fY:=Int×Int
def f:Ft fY:=⟨none,.tup [.inl (.it .u64),.inl (.it .i64)],[],λa b=>(a.1,a.2.1),λy=>(y.1,(y.2,())),λy=>()⟩
def cl:List (FuncId×Con):=[(91,M91.con),(93,M93.con)]
theorem Q3:QF Try.prog cl:=⟨M91.con_ok,M93.con_ok,trivial⟩
def E0:Env:=⟨ty,QN cl,λ_=>none,none⟩
def m(x:gX):Option fY:=bindO (M91.m ⟨x.n,x.t,x.s⟩) λy=>bif y.2.2.2 !=0 then some (0,y.2.2.2) else bindO (M93.m ⟨y.1,y.2.1,y.2.2.1⟩) λy=>some (y.2.2,0)
theorem QL(x:gX):exec E0 20 C58 0 (QP 0 (g.A x)) (g.H x) (finish 0 ty [.tmp 4,.tmp 5] f)=m x:=by kernel_rfl
theorem tl:QI C58 0=[]:=by kernel_rfl
theorem known:QM Try.prog 58 g f m:=
 Q8 mixed (Q5 QB Q3 _) s58 rfl rfl tl QA.nil (λ_ _=>⟨rfl,rfl⟩) (λ_ _=>⟨rfl,rfl⟩) QL
def con:Con:=J9 g f m default
theorem con_ok:QR Try.prog 58 con:=QG known (λ_=>rfl) rfl
end M58
namespace M54
structure gX where(n t:Int)
def g:Sg gX:=⟨[.agg [.it .u8,.it .u64]],[],λa b=>⟨a.1.1,a.1.2.1⟩,λx=>((x.n,(x.t,())),()),λx=>()⟩
abbrev fY:=Int×Int
def f:Ft fY:=⟨none,.agg [.it .i64,.it .u64],[],λa b=>(a.1,a.2.1),λy=>(y.1,(y.2,())),λy=>()⟩
def cl:List (FuncId×Con):=[]
theorem Q3:QF Try.prog cl:=trivial
def E0:Env:=⟨ty,QN cl,λ_=>none,none⟩
def m(x:gX):Option fY:=bif decide (0<=IntKind.i64.wrap (1+IntKind.i64.wrap (x.n.tmod 16))) then bif nz (IntKind.u64.wrap (1*2^min (IntKind.i64.wrap (1+IntKind.i64.wrap (x.n.tmod 16))).toNat 64)) then bif decide (0<=IntKind.i64.wrap (IntKind.i64.wrap (1+IntKind.i64.wrap (x.n.tmod 16)) - 1)) then some (IntKind.i64.wrap (1+IntKind.i64.wrap (x.n.tmod 16)),IntKind.u64.wrap (↑(BitVec.ofInt 64 (x.t.tmod (IntKind.u64.wrap (1*2^min (IntKind.i64.wrap (1+IntKind.i64.wrap (x.n.tmod 16))).toNat 64)))|||BitVec.ofInt 64 (IntKind.u64.wrap (1*2^min (IntKind.i64.wrap (IntKind.i64.wrap (1+IntKind.i64.wrap (x.n.tmod 16)) - 1)).toNat 64))).toNat:Int)) else none else none else none
theorem QL(x:gX):exec E0 20 C54 0 (QP 0 (g.A x)) (g.H x) (finish 0 ty [.cell 2 91] f)=m x:=by kernel_rfl
theorem tl:QI C54 0=[]:=by kernel_rfl
theorem known:QM Try.prog 54 g f m:=
 Q8 mixed (Q5 QB Q3 _) s54 rfl rfl tl QA.nil (λ_ _=>⟨rfl,rfl⟩) (λ_ _=>⟨rfl,rfl⟩) QL
def con:Con:=J9 g f m default
theorem con_ok:QR Try.prog 54 con:=QG known (λ_=>rfl) rfl
end M54
namespace M67
structure gX where(x:Int)
def g:Sg gX:=⟨[.c (.it .u64)],[],λa b=>⟨a.1⟩,λx=>(x.x,()),λx=>()⟩
abbrev fY:=Int
def f:Ft fY:=⟨none,.c (.it .u64),[],λa b=>(a),λy=>y,λy=>()⟩
def cl:List (FuncId×Con):=[]
theorem Q3:QF Try.prog cl:=trivial
def E1:Env:=⟨ty,QN cl,λ_=>none,none⟩
structure p0X where(x n:Int)
def p0:Pt p0X where
 own:=[]
 t:=⟨[(0,.c (.it .u64)),(3,.c (.it .u64))],[]⟩
 to:=λv=>⟨v.1.1,v.1.2.1⟩
 fr:=λx=>((x.x,(x.n,())),())
structure q0X where(n:Int)
def q0:Pt q0X where
 own:=[]
 t:=⟨[(3,.c (.it .u64))],[]⟩
 to:=λv=>⟨v.1.1⟩
 fr:=λx=>((x.n,()),())
def s0(x:p0X):Option (p0X⊕q0X):=bif decide (x.x>0) then some (Sum.inl ⟨IntKind.u64.wrap (x.x.tdiv 2),IntKind.u64.wrap (x.n+x.x.tmod 2)⟩) else some (Sum.inr ⟨x.n⟩)
theorem QZ(x:p0X):exec E1 14 (C67.Q2 0) 1 (p0.R x) (p0.H x) (Qr 0 p0 (.exit 0) q0)=s0 x:=by kernel_rfl
def l0:QU:=Qs 0 p0 (.exit 0) q0 s0
theorem tl0:QI (C67.Q2 0) 1=[]:=by kernel_rfl
theorem Qa  :QH Try.prog 14 none 0 (C67.Q2 0) l0:=QS mixed (Q5 QB Q3 _) (by trivial) (λ_=>rfl) (λ_=>rfl) (tl0▸QA.nil) QZ
def E0:Env:=⟨ty,QN cl,JH [(0,l0)],none⟩
def m(x:gX):Option fY:=bindO (iter s0 ⟨x.x,0⟩) λy=>some (y.n.tmod 2)
theorem QL(x:gX):exec E0 14 C67 0 (QP 0 (g.A x)) (g.H x) (finish 0 ty [.tmp 2] f)=m x:=by kernel_rfl
theorem tl:QI C67 0=[(0,C67.Q2 0)]:=by kernel_rfl
theorem known:QM Try.prog 67 g f m:=
 Q8 mixed (Q5 QB Q3 _) s67 rfl rfl tl (QA.cons rfl Qa QA.nil) (λ_ _=>⟨rfl,rfl⟩) (λ_ _=>⟨rfl,rfl⟩) QL
def con:Con:=J9 g f m default
theorem con_ok:QR Try.prog 67 con:=QG known (λ_=>rfl) rfl
end M67
namespace M57
structure gX where(n t s:Int)
def g:Sg gX:=⟨[.agg [.it .i64,.it .u64],.c (.it .u64)],[],λa b=>⟨a.1.1,a.1.2.1,a.2.1⟩,λx=>((x.n,(x.t,())),(x.s,())),λx=>()⟩
abbrev fY:=Int
def f:Ft fY:=⟨none,.c (.it .u64),[],λa b=>(a),λy=>y,λy=>()⟩
def cl:List (FuncId×Con):=[(67,M67.con)]
theorem Q3:QF Try.prog cl:=⟨M67.con_ok,trivial⟩
def E1:Env:=⟨ty,QN cl,λ_=>none,none⟩
structure p0X where(s out i n t:Int)
def p0:Pt p0X where
 own:=[]
 t:=⟨[(1,.c (.it .u64)),(2,.c (.ptr 0 0)),(5,.c (.it .u64)),(6,.c (.it .i64))],[.st [.it .i64,.it .u64] 1 0]⟩
 to:=λv=>⟨v.1.1,v.1.2.2.1,v.1.2.2.2.1,v.2.1.1,v.2.1.2.1⟩
 fr:=λx=>((x.s,((),(x.out,(x.i,())))),((x.n,(x.t,())),()))
structure q0X where(out n t:Int)
def q0:Pt q0X where
 own:=[]
 t:=⟨[(5,.c (.it .u64))],[.st [.it .i64,.it .u64] 1 0]⟩
 to:=λv=>⟨v.1.1,v.2.1.1,v.2.1.2.1⟩
 fr:=λx=>((x.out,()),((x.n,(x.t,())),()))
def s0(x:p0X):Option (p0X⊕q0X):=bif decide (IntKind.i64.wrap (x.i+1)<x.n) then bif decide (0<=x.i) then bif bif decide (0<=IntKind.i64.wrap (x.i+1))&&true then true else bif (x.s.fdiv (2^min x.i.toNat 64)).tmod 2==1 then false else true then some (Sum.inl ⟨x.s,bif (x.s.fdiv (2^min x.i.toNat 64)).tmod 2==1 then IntKind.u64.wrap (↑(BitVec.ofInt 64 x.out|||BitVec.ofInt 64 (IntKind.u64.wrap (1*2^min (IntKind.i64.wrap (x.i+1)).toNat 64))).toNat:Int) else x.out,IntKind.i64.wrap (x.i+1),x.n,x.t⟩) else none else none else some (Sum.inr ⟨x.out,x.n,x.t⟩)
theorem QZ(x:p0X):exec E1 30 (C57.Q2 0) 1 (p0.R x) (p0.H x) (Qr 0 p0 (.exit 0) q0)=s0 x:=by kernel_rfl
def l0:QU:=Qs 0 p0 (.exit 0) q0 s0
theorem tl0:QI (C57.Q2 0) 1=[]:=by kernel_rfl
theorem Qa  :QH Try.prog 30 none 0 (C57.Q2 0) l0:=QS mixed (Q5 QB Q3 _) (by trivial) (λ_=>rfl) (λ_=>rfl) (tl0▸QA.nil) QZ
def E0:Env:=⟨ty,QN cl,JH [(0,l0)],none⟩
def m(x:gX):Option fY:=bindO (M67.m ⟨IntKind.u64.wrap (↑(BitVec.ofInt 64 x.s&&&BitVec.ofInt 64 x.t).toNat:Int)⟩) λy=>bindO (iter s0 ⟨x.s,y,0,x.n,x.t⟩) λy=>some y.out
theorem QL(x:gX):exec E0 30 C57 0 (QP 0 (g.A x)) (g.H x) (finish 0 ty [.tmp 4] f)=m x:=by kernel_rfl
theorem tl:QI C57 0=[(0,C57.Q2 0)]:=by kernel_rfl
theorem known:QM Try.prog 57 g f m:=
 Q8 mixed (Q5 QB Q3 _) s57 rfl rfl tl (QA.cons rfl Qa QA.nil) (λ_ _=>⟨rfl,rfl⟩) (λ_ _=>⟨rfl,rfl⟩) QL
def con:Con:=J9 g f m default
theorem con_ok:QR Try.prog 57 con:=QG known (λ_=>rfl) rfl
end M57
namespace M56
structure gX where(n t s k:Int)
def g:Sg gX:=⟨[.agg [.it .i64,.it .u64],.c (.it .u64),.c (.it .i64)],[],λa b=>⟨a.1.1,a.1.2.1,a.2.1,a.2.2.1⟩,λx=>((x.n,(x.t,())),(x.s,(x.k,()))),λx=>()⟩
abbrev fY:=Int
def f:Ft fY:=⟨none,.c (.it .u64),[],λa b=>(a),λy=>y,λy=>()⟩
def cl:List (FuncId×Con):=[(57,M57.con)]
theorem Q3:QF Try.prog cl:=⟨M57.con_ok,trivial⟩
def E1:Env:=⟨ty,QN cl,λ_=>none,none⟩
structure p0X where(s k i n t:Int)
def p0:Pt p0X where
 own:=[]
 t:=⟨[(1,.c (.it .u64)),(2,.c (.it .i64)),(3,.c (.ptr 0 0)),(7,.c (.it .i64))],[.st [.it .i64,.it .u64] 1 0]⟩
 to:=λv=>⟨v.1.1,v.1.2.1,v.1.2.2.2.1,v.2.1.1,v.2.1.2.1⟩
 fr:=λx=>((x.s,(x.k,((),(x.i,())))),((x.n,(x.t,())),()))
structure q0X where(s n t:Int)
def q0:Pt q0X where
 own:=[]
 t:=⟨[(1,.c (.it .u64))],[.st [.it .i64,.it .u64] 1 0]⟩
 to:=λv=>⟨v.1.1,v.2.1.1,v.2.1.2.1⟩
 fr:=λx=>((x.s,()),((x.n,(x.t,())),()))
def s0(x:p0X):Option (p0X⊕q0X):=bif decide (x.i<x.k) then bindO (M57.m ⟨x.n,x.t,x.s⟩) λy=>some (Sum.inl ⟨y,x.k,IntKind.i64.wrap (x.i+1),x.n,x.t⟩) else some (Sum.inr ⟨x.s,x.n,x.t⟩)
theorem QZ(x:p0X):exec E1 17 (C56.Q2 0) 1 (p0.R x) (p0.H x) (Qr 0 p0 (.exit 0) q0)=s0 x:=by kernel_rfl
def l0:QU:=Qs 0 p0 (.exit 0) q0 s0
theorem tl0:QI (C56.Q2 0) 1=[]:=by kernel_rfl
theorem Qa  :QH Try.prog 17 none 0 (C56.Q2 0) l0:=QS mixed (Q5 QB Q3 _) (by trivial) (λ_=>rfl) (λ_=>rfl) (tl0▸QA.nil) QZ
def E0:Env:=⟨ty,QN cl,JH [(0,l0)],none⟩
def m(x:gX):Option fY:=bindO (iter s0 ⟨x.s,x.k,0,x.n,x.t⟩) λy=>some y.s
theorem QL(x:gX):exec E0 17 C56 0 (QP 0 (g.A x)) (g.H x) (finish 0 ty [.tmp 6] f)=m x:=by kernel_rfl
theorem tl:QI C56 0=[(0,C56.Q2 0)]:=by kernel_rfl
theorem known:QM Try.prog 56 g f m:=
 Q8 mixed (Q5 QB Q3 _) s56 rfl rfl tl (QA.cons rfl Qa QA.nil) (λ_ _=>⟨rfl,rfl⟩) (λ_ _=>⟨rfl,rfl⟩) QL
def con:Con:=J9 g f m default
theorem con_ok:QR Try.prog 56 con:=QG known (λ_=>rfl) rfl
end M56
namespace M68
structure gX where(x n:Int)
def g:Sg gX:=⟨[.c (.it .u64),.c (.it .i64)],[],λa b=>⟨a.1,a.2.1⟩,λx=>(x.x,(x.n,())),λx=>()⟩
abbrev fY:=Bool
def f:Ft fY:=⟨none,.c (.bo),[],λa b=>(a),λy=>y,λy=>()⟩
def cl:List (FuncId×Con):=[]
theorem Q3:QF Try.prog cl:=trivial
def E0:Env:=⟨ty,QN cl,λ_=>none,none⟩
def m(x:gX):Option fY:=bif decide (0<=x.n)||!decide (x.n<64) then some (bif decide (x.n<64) then decide (x.x.fdiv (2^min x.n.toNat 64)>0) else false) else none
theorem QL(x:gX):exec E0 13 C68 0 (QP 0 (g.A x)) (g.H x) (finish 0 ty [.tmp 4] f)=m x:=by kernel_rfl
theorem tl:QI C68 0=[]:=by kernel_rfl
theorem known:QM Try.prog 68 g f m:=
 Q8 mixed (Q5 QB Q3 _) s68 rfl rfl tl QA.nil (λ_ _=>⟨rfl,rfl⟩) (λ_ _=>⟨rfl,rfl⟩) QL
def con:Con:=J9 g f m default
theorem con_ok:QR Try.prog 68 con:=QG known (λ_=>rfl) rfl
end M68
namespace M66
structure gX where(s n:Int)
def g:Sg gX:=⟨[.c (.it .u64),.c (.it .i64)],[],λa b=>⟨a.1,a.2.1⟩,λx=>(x.s,(x.n,())),λx=>()⟩
abbrev fY:=Int×List (Int)
def f:Ft fY:=⟨none,.agg [.it .i64,.arr (.int .u64)],[],λa b=>(a.1,a.2.1),λy=>(y.1,(y.2,())),λy=>()⟩
def cl:List (FuncId×Con):=[(52,M52.con)]
theorem Q3:QF Try.prog cl:=⟨M52.con_ok,trivial⟩
def E1:Env:=⟨ty,QN cl,λ_=>none,none⟩
structure p0X where(s n:Int)(out_lo out_len:Nat)(i:Int)(out:List (Int))
def p0:Pt p0X where
 own:=[.reg 5 (.int .u8)]
 t:=⟨[(0,.c (.it .u64)),(1,.c (.it .i64)),(4,.c (.ptr 0 0)),(5,.c (.sl 1 0 1)),(6,.c (.it .i64))],[.st [.junk,.junk] 1 0,.arr (.int .u8) 0]⟩
 to:=λv=>⟨v.1.1,v.1.2.1,v.1.2.2.2.1.1,v.1.2.2.2.1.2,v.1.2.2.2.2.1,v.2.2.1⟩
 fr:=λx=>((x.s,(x.n,((),((x.out_lo,x.out_len),(x.i,()))))),(((),((),())),(x.out,())))
structure q0X where(out:List (Int))
def q0:Pt q0X where
 own:=[]
 t:=⟨[(4,.c (.ptr 0 0)),(5,.c (.arr (.int .u8)))],[.st [.junk,.junk] 1 0]⟩
 to:=λv=>⟨v.1.2.1⟩
 fr:=λx=>(((),(x.out,())),(((),((),())),()))
def s0(x:p0X):Option (p0X⊕q0X):=bif decide (x.i<x.n) then bif decide (0<=x.i) then bif eqN x.out_lo 0&&eqN x.out.length x.out_len&&Ql (x.out_len+1) 1 then some (Sum.inl ⟨x.s,x.n,0,x.out_len+1,IntKind.i64.wrap (x.i+1),x.out++[IntKind.u8.wrap ((x.s.fdiv (2^min x.i.toNat 64)).tmod 2)]⟩) else none else none else bif leB (x.out_lo+x.out_len) x.out.length&&true&&true then some (Sum.inr ⟨List.take x.out_len (List.drop x.out_lo x.out)⟩) else none
theorem QZ(x:p0X):exec E1 28 (C66.Q2 0) 1 (p0.R x) (p0.H x) (Qr 0 p0 (.exit 0) q0)=s0 x:=by kernel_rfl
def l0:QU:=Qs 0 p0 (.exit 0) q0 s0
theorem tl0:QI (C66.Q2 0) 1=[]:=by kernel_rfl
theorem Qa  :QH Try.prog 28 none 0 (C66.Q2 0) l0:=QS mixed (Q5 QB Q3 _) (by trivial) (λ_=>rfl) (λ_=>rfl) (tl0▸QA.nil) QZ
def E0:Env:=⟨ty,QN cl,JH [(0,l0)],none⟩
def m(x:gX):Option fY:=bindO (iter s0 ⟨x.s,x.n,0,0,0,[]⟩) λy=>bindO (M52.m ⟨y.out⟩) λy=>some (y.1,y.2.1)
theorem QL(x:gX):exec E0 28 C66 0 (QP 0 (g.A x)) (g.H x) (finish 0 ty [.cell 4 34] f)=m x:=by kernel_rfl
theorem tl:QI C66 0=[(0,C66.Q2 0)]:=by kernel_rfl
theorem known:QM Try.prog 66 g f m:=
 Q8 mixed (Q5 QB Q3 _) s66 rfl rfl tl (QA.cons rfl Qa QA.nil) (λ_ _=>⟨rfl,rfl⟩) (λ_ _=>⟨rfl,rfl⟩) QL
def con:Con:=J9 g f m default
theorem con_ok:QR Try.prog 66 con:=QG known (λ_=>rfl) rfl
end M66
namespace M98
structure gX where(s n:Int)
def g:Sg gX:=⟨[.c (.it .u64),.c (.it .i64)],[],λa b=>⟨a.1,a.2.1⟩,λx=>(x.s,(x.n,())),λx=>()⟩
abbrev fY:=Int×List (Int)
def f:Ft fY:=⟨none,.agg [.it .i64,.arr (.int .u64)],[],λa b=>(a.1,a.2.1),λy=>(y.1,(y.2,())),λy=>()⟩
def cl:List (FuncId×Con):=[(51,M51.con)]
theorem Q3:QF Try.prog cl:=⟨M51.con_ok,trivial⟩
def E0:Env:=⟨ty,QN cl,λ_=>none,none⟩
def m(x:gX):Option fY:=bindO (M51.m ⟨x.n⟩) λy=>bif inR 0 y.2.2.1 then bif decide (y.2.1+0<y.2.2.2.2.2.length) then bif leB (y.2.1+y.2.2.1) (y.2.2.2.2.2.set (y.2.1+0) x.s).length&&true&&true&&true then some (y.1,List.take y.2.2.1 (List.drop y.2.1 (y.2.2.2.2.2.set (y.2.1+0) x.s))) else none else none else none
theorem QL(x:gX):exec E0 17 C98 0 (QP 0 (g.A x)) (g.H x) (finish 0 ty [.cell 4 34] f)=m x:=by kernel_rfl
theorem tl:QI C98 0=[]:=by kernel_rfl
theorem known:QM Try.prog 98 g f m:=
 Q8 mixed (Q5 QB Q3 _) s98 rfl rfl tl QA.nil (λ_ _=>⟨rfl,rfl⟩) (λ_ _=>⟨rfl,rfl⟩) QL
def con:Con:=J9 g f m default
theorem con_ok:QR Try.prog 98 con:=QG known (λ_=>rfl) rfl
end M98
namespace M99
structure gX where(n t:Int)
def g:Sg gX:=⟨[.agg [.it .i64,.it .u64]],[],λa b=>⟨a.1.1,a.1.2.1⟩,λx=>((x.n,(x.t,())),()),λx=>()⟩
abbrev fY:=Int×(List ((Int)×List (Int)))
def f:Ft fY:=⟨none,.agg [.it .i64,.arr (.pair (.int .i64) (.sl (.int .u64)))],[],λa b=>(a.1,a.2.1),λy=>(y.1,(y.2,())),λy=>()⟩
def cl:List (FuncId×Con):=[(93,M93.con),(98,M98.con),(40,M40.con)]
theorem Q3:QF Try.prog cl:=⟨M93.con_ok,M98.con_ok,M40.con_ok,trivial⟩
def E1:Env:=⟨ty,QN cl,λ_=>none,none⟩
structure p0X where(n i n2 t oc:Int)(or__lo or__len:Nat)(out:List ((Int)×List (Int)))
def p0:Pt p0X where
 own:=[.cell 2 1 (.pair (.int .i64) (.sl (.int .u64)))]
 t:=⟨[(1,.c (.ptr 0 0)),(2,.c (.ptr 1 0)),(3,.c (.ptr 2 0)),(12,.c (.it .i64)),(13,.c (.it .i64))],[.st [.it .i64,.it .u64] 1 0,.st [.junk,.junk] 1 0,.st [.it .i64,.sl 3 0 2] 1 0,.arr (.pair (.int .i64) (.sl (.int .u64))) 0]⟩
 to:=λv=>⟨v.1.2.2.2.1,v.1.2.2.2.2.1,v.2.1.1,v.2.1.2.1,v.2.2.2.1.1,v.2.2.2.1.2.1.1,v.2.2.2.1.2.1.2,v.2.2.2.2.1⟩
 fr:=λx=>(((),((),((),(x.n,(x.i,()))))),((x.n2,(x.t,())),(((),((),())),((x.oc,((x.or__lo,x.or__len),())),(x.out,())))))
structure q0X where(n t oc:Int)(or_:List ((Int)×List (Int)))
def q0:Pt q0X where
 own:=[]
 t:=⟨[(2,.c (.ptr 1 0)),(3,.c (.ptr 2 0))],[.st [.it .i64,.it .u64] 1 0,.st [.junk,.junk] 1 0,.st [.it .i64,.arr (.pair (.int .i64) (.sl (.int .u64)))] 1 0]⟩
 to:=λv=>⟨v.2.1.1,v.2.1.2.1,v.2.2.2.1.1,v.2.2.2.1.2.1⟩
 fr:=λx=>(((),((),())),((x.n,(x.t,())),(((),((),())),((x.oc,(x.or_,())),()))))
def s0(x:p0X):Option (p0X⊕q0X):=bif decide (x.i<x.n) then bif decide (0<=x.i) then bindO (M93.m ⟨x.n2,x.t,IntKind.u64.wrap (1*2^min x.i.toNat 64)⟩) λy=>bindO (M98.m ⟨y.2.2,x.n2⟩) λy=>bif eqN x.or__lo 0&&eqN x.out.length x.or__len&&Ql (x.or__len+1) 32 then some (Sum.inl ⟨x.n,IntKind.i64.wrap (x.i+1),x.n2,x.t,x.oc,0,x.or__len+1,x.out++[(y.1,y.2)]⟩) else none else none else bif leB (x.or__lo+x.or__len) x.out.length&&true&&true then some (Sum.inr ⟨x.n2,x.t,x.oc,List.take x.or__len (List.drop x.or__lo x.out)⟩) else none
theorem QZ(x:p0X):exec E1 38 (C99.Q2 0) 1 (p0.R x) (p0.H x) (Qr 0 p0 (.exit 0) q0)=s0 x:=by kernel_rfl
def l0:QU:=Qs 0 p0 (.exit 0) q0 s0
theorem tl0:QI (C99.Q2 0) 1=[]:=by kernel_rfl
theorem Qa  :QH Try.prog 38 none 0 (C99.Q2 0) l0:=QS mixed (Q5 QB Q3 _) (by trivial) (λ_=>rfl) (λ_=>rfl) (tl0▸QA.nil) QZ
def E0:Env:=⟨ty,QN cl,JH [(0,l0)],none⟩
def m(x:gX):Option fY:=bindO (iter s0 ⟨x.n,0,x.n,x.t,x.n,0,0,[]⟩) λy=>bindO (M40.m ⟨y.oc,y.or_⟩) λy=>some (y.1,y.2.1)
theorem QL(x:gX):exec E0 38 C99 0 (QP 0 (g.A x)) (g.H x) (finish 0 ty [.cell 2 40] f)=m x:=by kernel_rfl
theorem tl:QI C99 0=[(0,C99.Q2 0)]:=by kernel_rfl
theorem known:QM Try.prog 99 g f m:=
 Q8 mixed (Q5 QB Q3 _) s99 rfl rfl tl (QA.cons rfl Qa QA.nil) (λ_ _=>⟨rfl,rfl⟩) (λ_ _=>⟨rfl,rfl⟩) QL
def con:Con:=J9 g f m default
theorem con_ok:QR Try.prog 99 con:=QG known (λ_=>rfl) rfl
end M99
namespace M70
structure gX where(n t:Int)
def g:Sg gX:=⟨[.agg [.it .i64,.it .u64]],[],λa b=>⟨a.1.1,a.1.2.1⟩,λx=>((x.n,(x.t,())),()),λx=>()⟩
abbrev fY:=Int×(List ((Int)×List (Int)))×Int
def f:Ft fY:=⟨none,.tup [.inr [.it .i64,.arr (.pair (.int .i64) (.sl (.int .u64)))],.inl (.it .i64)],[],λa b=>(a.1.1,a.1.2.1,a.2.1),λy=>((y.1,(y.2.1,())),(y.2.2,())),λy=>()⟩
def cl:List (FuncId×Con):=[(71,M71.con),(99,M99.con)]
theorem Q3:QF Try.prog cl:=⟨M71.con_ok,M99.con_ok,trivial⟩
def E0:Env:=⟨ty,QN cl,λ_=>none,none⟩
def m(x:gX):Option fY:=bindO (M71.m ⟨x.n,x.t⟩) λy=>bif y !=0 then some (0,[],y) else bindO (M99.m ⟨x.n,x.t⟩) λy=>some (y.1,y.2,0)
theorem QL(x:gX):exec E0 13 C70 0 (QP 0 (g.A x)) (g.H x) (finish 0 ty [.cell 2 40,.tmp 3] f)=m x:=by kernel_rfl
theorem tl:QI C70 0=[]:=by kernel_rfl
theorem known:QM Try.prog 70 g f m:=
 Q8 mixed (Q5 QB Q3 _) s70 rfl rfl tl QA.nil (λ_ _=>⟨rfl,rfl⟩) (λ_ _=>⟨rfl,rfl⟩) QL
def con:Con:=J9 g f m default
theorem con_ok:QR Try.prog 70 con:=QG known (λ_=>rfl) rfl
end M70
namespace M69
structure gX where(n t s k:Int)
def g:Sg gX:=⟨[.agg [.it .i64,.it .u64],.c (.it .u64),.c (.it .u64)],[],λa b=>⟨a.1.1,a.1.2.1,a.2.1,a.2.2.1⟩,λx=>((x.n,(x.t,())),(x.s,(x.k,()))),λx=>()⟩
abbrev fY:=Int×Int
def f:Ft fY:=⟨none,.tup [.inl (.it .u64),.inl (.it .i64)],[],λa b=>(a.1,a.2.1),λy=>(y.1,(y.2,())),λy=>()⟩
def cl:List (FuncId×Con):=[(91,M91.con),(98,M98.con),(99,M99.con),(29,M29.con),(39,M39.con)]
theorem Q3:QF Try.prog cl:=⟨M91.con_ok,M98.con_ok,M99.con_ok,M29.con_ok,M39.con_ok,trivial⟩
def E1:Env:=⟨ty,QN cl,λ_=>none,none⟩
structure p0X where(k vn:Int)(vw:List (Int))(mc:Int)(mr:List ((Int)×List (Int)))
def p0:Pt p0X where
 own:=[]
 t:=⟨[(2,.c (.it .u64)),(10,.c (.ptr 2 0)),(11,.c (.ptr 3 0))],[.st [.junk,.junk] 1 0,.st [.junk,.junk,.junk] 1 0,.st [.it .i64,.arr (.int .u64)] 1 0,.st [.it .i64,.arr (.pair (.int .i64) (.sl (.int .u64)))] 1 0]⟩
 to:=λv=>⟨v.1.1,v.2.2.2.1.1,v.2.2.2.1.2.1,v.2.2.2.2.1.1,v.2.2.2.2.1.2.1⟩
 fr:=λx=>((x.k,((),((),()))),(((),((),())),(((),((),((),()))),((x.vn,(x.vw,())),((x.mc,(x.mr,())),())))))
structure q0X where(vn:Int)(vw:List (Int))(mc:Int)(mr:List ((Int)×List (Int)))
def q0:Pt q0X where
 own:=[]
 t:=⟨[(10,.c (.ptr 2 0)),(11,.c (.ptr 3 0))],[.st [.junk,.junk] 1 0,.st [.junk,.junk,.junk] 1 0,.st [.it .i64,.arr (.int .u64)] 1 0,.st [.it .i64,.arr (.pair (.int .i64) (.sl (.int .u64)))] 1 0]⟩
 to:=λv=>⟨v.2.2.2.1.1,v.2.2.2.1.2.1,v.2.2.2.2.1.1,v.2.2.2.2.1.2.1⟩
 fr:=λx=>(((),((),())),(((),((),())),(((),((),((),()))),((x.vn,(x.vw,())),((x.mc,(x.mr,())),())))))
def s0(x:p0X):Option (p0X⊕q0X):=bif decide (x.k>0) then bif x.k.tmod 2==1 then bindO (M29.m ⟨x.mc,x.mr,x.vn,x.vw⟩) λy=>bindO (M39.m ⟨x.mc,x.mr,x.mc,x.mr⟩) λy_1=>some (Sum.inl ⟨x.k.fdiv (2^1),y.1,y.2.1,y_1.1,y_1.2.1⟩) else bindO (M39.m ⟨x.mc,x.mr,x.mc,x.mr⟩) λy=>some (Sum.inl ⟨x.k.fdiv (2^1),x.vn,x.vw,y.1,y.2.1⟩) else some (Sum.inr ⟨x.vn,x.vw,x.mc,x.mr⟩)
theorem QZ(x:p0X):exec E1 50 (C69.Q2 0) 1 (p0.R x) (p0.H x) (Qr 0 p0 (.exit 0) q0)=s0 x:=by kernel_rfl
def l0:QU:=Qs 0 p0 (.exit 0) q0 s0
theorem tl0:QI (C69.Q2 0) 1=[]:=by kernel_rfl
theorem Qa  :QH Try.prog 50 none 0 (C69.Q2 0) l0:=QS mixed (Q5 QB Q3 _) (by trivial) (λ_=>rfl) (λ_=>rfl) (tl0▸QA.nil) QZ
def E0:Env:=⟨ty,QN cl,JH [(0,l0)],none⟩
def m(x:gX):Option fY:=bindO (M91.m ⟨x.n,x.t,x.s⟩) λy=>bif y.2.2.2 !=0 then some (0,y.2.2.2) else bindO (M98.m ⟨x.s,x.n⟩) λy=>bindO (M99.m ⟨x.n,x.t⟩) λy_1=>bindO (iter s0 ⟨x.k,y.1,y.2,y_1.1,y_1.2⟩) λy=>bif inR 0 y.vw.length then some (y.vw[0]?.getD 0,0) else none
theorem QL(x:gX):exec E0 50 C69 0 (QP 0 (g.A x)) (g.H x) (finish 0 ty [.tmp 6,.tmp 7] f)=m x:=by kernel_rfl
theorem tl:QI C69 0=[(0,C69.Q2 0)]:=by kernel_rfl
theorem known:QM Try.prog 69 g f m:=
 Q8 mixed (Q5 QB Q3 _) s69 rfl rfl tl (QA.cons rfl Qa QA.nil) (λ_ _=>⟨rfl,rfl⟩) (λ_ _=>⟨rfl,rfl⟩) QL
def con:Con:=J9 g f m default
theorem con_ok:QR Try.prog 69 con:=QG known (λ_=>rfl) rfl
end M69
namespace M60
structure gX where(n t:Int)(ph:List (Int))(c:Int)
def g:Sg gX:=⟨[.agg [.it .u8,.it .u64,.arr (.int .u64),.it .u8]],[],λa b=>⟨a.1.1,a.1.2.1,a.1.2.2.1,a.1.2.2.2.1⟩,λx=>((x.n,(x.t,(x.ph,(x.c,())))),()),λx=>()⟩
abbrev fY:=Int×Int×List (Int)×Int
def f:Ft fY:=⟨none,.agg [.it .i64,.it .u64,.arr (.int .u64),.it .i64],[],λa b=>(a.1,a.2.1,a.2.2.1,a.2.2.2.1),λy=>(y.1,(y.2.1,(y.2.2.1,(y.2.2.2,())))),λy=>()⟩
def cl:List (FuncId×Con):=[(54,M54.con)]
theorem Q3:QF Try.prog cl:=⟨M54.con_ok,trivial⟩
def E1:Env:=⟨ty,QN cl,λ_=>none,none⟩
structure p0X where(i dn dt:Int)(dph:List (Int))(dc ln lt n t:Int)(ph_lo ph_len:Nat)(c:Int)(out:List (Int))
def p0:Pt p0X where
 own:=[.cell 3 2 (.int .u64)]
 t:=⟨[(1,.c (.ptr 0 0)),(2,.c (.ptr 1 0)),(3,.c (.ptr 2 0)),(4,.c (.ptr 3 0)),(5,.c (.it .i64))],[.st [.it .u8,.it .u64,.arr (.int .u64),.it .u8] 1 0,.st [.junk,.junk,.junk,.junk] 1 0,.st [.it .i64,.it .u64] 1 0,.st [.it .i64,.it .u64,.sl 4 0 1,.it .i64] 1 0,.arr (.int .u64) 0]⟩
 to:=λv=>⟨v.1.2.2.2.2.1,v.2.1.1,v.2.1.2.1,v.2.1.2.2.1,v.2.1.2.2.2.1,v.2.2.2.1.1,v.2.2.2.1.2.1,v.2.2.2.2.1.1,v.2.2.2.2.1.2.1,v.2.2.2.2.1.2.2.1.1,v.2.2.2.2.1.2.2.1.2,v.2.2.2.2.1.2.2.2.1,v.2.2.2.2.2.1⟩
 fr:=λx=>(((),((),((),((),(x.i,()))))),((x.dn,(x.dt,(x.dph,(x.dc,())))),(((),((),((),((),())))),((x.ln,(x.lt,())),((x.n,(x.t,((x.ph_lo,x.ph_len),(x.c,())))),(x.out,()))))))
structure q0X where(dn dt:Int)(dph:List (Int))(dc ln lt n t:Int)(ph:List (Int))(c:Int)
def q0:Pt q0X where
 own:=[]
 t:=⟨[(2,.c (.ptr 1 0)),(4,.c (.ptr 3 0))],[.st [.it .u8,.it .u64,.arr (.int .u64),.it .u8] 1 0,.st [.junk,.junk,.junk,.junk] 1 0,.st [.it .i64,.it .u64] 1 0,.st [.it .i64,.it .u64,.arr (.int .u64),.it .i64] 1 0]⟩
 to:=λv=>⟨v.2.1.1,v.2.1.2.1,v.2.1.2.2.1,v.2.1.2.2.2.1,v.2.2.2.1.1,v.2.2.2.1.2.1,v.2.2.2.2.1.1,v.2.2.2.2.1.2.1,v.2.2.2.2.1.2.2.1,v.2.2.2.2.1.2.2.2.1⟩
 fr:=λx=>(((),((),())),((x.dn,(x.dt,(x.dph,(x.dc,())))),(((),((),((),((),())))),((x.ln,(x.lt,())),((x.n,(x.t,(x.ph,(x.c,())))),())))))
def s0(x:p0X):Option (p0X⊕q0X):=bif decide (x.i<(↑x.dph.length:Int)) then bif inR x.i x.dph.length then bif decide (0<=x.ln) then bif nz (IntKind.u64.wrap (1*2^min x.ln.toNat 64)) then bif eqN x.ph_lo 0&&eqN x.out.length x.ph_len&&Ql (x.ph_len+1) 8 then some (Sum.inl ⟨IntKind.i64.wrap (x.i+1),x.dn,x.dt,x.dph,x.dc,x.ln,x.lt,x.n,x.t,0,x.ph_len+1,x.c,x.out++[Int.tmod (x.dph[x.i.toNat]?.getD 0) (IntKind.u64.wrap (1*2^min x.ln.toNat 64))]⟩) else none else none else none else none else bif leB (x.ph_lo+x.ph_len) x.out.length&&true&&true then some (Sum.inr ⟨x.dn,x.dt,x.dph,x.dc,x.ln,x.lt,x.n,x.t,List.take x.ph_len (List.drop x.ph_lo x.out),x.c⟩) else none
theorem QZ(x:p0X):exec E1 37 (C60.Q2 0) 1 (p0.R x) (p0.H x) (Qr 0 p0 (.exit 0) q0)=s0 x:=by kernel_rfl
def l0:QU:=Qs 0 p0 (.exit 0) q0 s0
theorem tl0:QI (C60.Q2 0) 1=[]:=by kernel_rfl
theorem Qa  :QH Try.prog 37 none 0 (C60.Q2 0) l0:=QS mixed (Q5 QB Q3 _) (by trivial) (λ_=>rfl) (λ_=>rfl) (tl0▸QA.nil) QZ
def E0:Env:=⟨ty,QN cl,JH [(0,l0)],none⟩
def m(x:gX):Option fY:=bindO (M54.m ⟨x.n,x.t⟩) λy=>bindO (iter s0 ⟨0,x.n,x.t,x.ph,x.c,y.1,y.2,y.1,y.2,0,0,IntKind.i64.wrap (x.c.tmod 13),[]⟩) λy=>some (y.n,y.t,y.ph,y.c)
theorem QL(x:gX):exec E0 37 C60 0 (QP 0 (g.A x)) (g.H x) (finish 0 ty [.cell 2 102] f)=m x:=by kernel_rfl
theorem tl:QI C60 0=[(0,C60.Q2 0)]:=by kernel_rfl
theorem known:QM Try.prog 60 g f m:=
 Q8 mixed (Q5 QB Q3 _) s60 rfl rfl tl (QA.cons rfl Qa QA.nil) (λ_ _=>⟨rfl,rfl⟩) (λ_ _=>⟨rfl,rfl⟩) QL
def con:Con:=J9 g f m default
theorem con_ok:QR Try.prog 60 con:=QG known (λ_=>rfl) rfl
end M60
namespace M72
structure gX where(n t:Int)(ph:List (Int))(c:Int)
def g:Sg gX:=⟨[.agg [.it .i64,.it .u64,.arr (.int .u64),.it .i64]],[],λa b=>⟨a.1.1,a.1.2.1,a.1.2.2.1,a.1.2.2.2.1⟩,λx=>((x.n,(x.t,(x.ph,(x.c,())))),()),λx=>()⟩
abbrev fY:=Int
def f:Ft fY:=⟨none,.c (.it .i64),[],λa b=>(a),λy=>y,λy=>()⟩
def cl:List (FuncId×Con):=[(71,M71.con),(100,M100.con)]
theorem Q3:QF Try.prog cl:=⟨M71.con_ok,M100.con_ok,trivial⟩
def E1:Env:=⟨ty,QN cl,λ_=>none,none⟩
structure p0X where(l:List (Int))(k i n t:Int)(ph:List (Int))(c:Int)
def p0:Pt p0X where
 own:=[]
 t:=⟨[(1,.c (.ptr 0 0)),(17,.c (.arr (.int .u64))),(18,.c (.it .i64)),(19,.c (.it .i64))],[.st [.it .i64,.it .u64,.arr (.int .u64),.it .i64] 1 0]⟩
 to:=λv=>⟨v.1.2.1,v.1.2.2.1,v.1.2.2.2.1,v.2.1.1,v.2.1.2.1,v.2.1.2.2.1,v.2.1.2.2.2.1⟩
 fr:=λx=>(((),(x.l,(x.k,(x.i,())))),((x.n,(x.t,(x.ph,(x.c,())))),()))
structure q0X where(n t:Int)(ph:List (Int))(c:Int)
def q0:Pt q0X where
 own:=[]
 t:=⟨[(1,.c (.ptr 0 0))],[.st [.it .i64,.it .u64,.arr (.int .u64),.it .i64] 1 0]⟩
 to:=λv=>⟨v.2.1.1,v.2.1.2.1,v.2.1.2.2.1,v.2.1.2.2.2.1⟩
 fr:=λx=>(((),()),((x.n,(x.t,(x.ph,(x.c,())))),()))
structure z0X where(e:Int)
def z0:Pt z0X where
 own:=[]
 t:=⟨[(2,.c (.it .i64))],[]⟩
 to:=λv=>⟨v.1.1⟩
 fr:=λx=>((x.e,()),())
def s0(x:p0X):Option (p0X⊕(q0X⊕z0X)):=bif decide (x.i<x.k) then bif inR x.i x.l.length then bindO (M100.m ⟨x.l[x.i.toNat]?.getD 0,x.n⟩) λy=>bif y then some (Sum.inr (Sum.inr ⟨1⟩)) else some (Sum.inl ⟨x.l,x.k,IntKind.i64.wrap (x.i+1),x.n,x.t,x.ph,x.c⟩) else none else some (Sum.inr (Sum.inl ⟨x.n,x.t,x.ph,x.c⟩))
theorem QZ(x:p0X):exec E1 47 (C72.Q2 0) 1 (p0.R x) (p0.H x) (JF 0 p0 (.exit 0) q0 .ret z0)=s0 x:=by kernel_rfl
def l0:QU:=JG 0 p0 (.exit 0) q0 .ret z0 s0
theorem tl0:QI (C72.Q2 0) 1=[]:=by kernel_rfl
theorem Qa  :QH Try.prog 47 none 0 (C72.Q2 0) l0:=Qi mixed (Q5 QB Q3 _) (by trivial) (by trivial) (λ_=>rfl) (λ_=>rfl) (λ_=>rfl) (tl0▸QA.nil) QZ
def E0:Env:=⟨ty,QN cl,JH [(0,l0)],none⟩
def m(x:gX):Option fY:=bindO (M71.m ⟨x.n,x.t⟩) λy=>bif y !=0 then some y else bif decide ((↑x.ph.length:Int)>64) then some 3 else bindO (iter s0 ⟨x.ph,(↑x.ph.length:Int),0,x.n,x.t,x.ph,x.c⟩) λs=>sumC s (λy=>bif decide (y.c<0) then some 1 else bif nz (↑y.ph.length:Int)||!decide ((↑y.ph.length:Int)>0) then bif bif decide ((↑y.ph.length:Int)>0) then decide (y.c>IntKind.i64.wrap (Int.tdiv 4096 (↑y.ph.length:Int))) else false then some 3 else some 0 else none) λz=>some z.e
theorem QL(x:gX):exec E0 47 C72 0 (QP 0 (g.A x)) (g.H x) (finish 0 ty [.tmp 2] f)=m x:=by kernel_rfl
theorem tl:QI C72 0=[(0,C72.Q2 0)]:=by kernel_rfl
theorem known:QM Try.prog 72 g f m:=
 Q8 mixed (Q5 QB Q3 _) s72 rfl rfl tl (QA.cons rfl Qa QA.nil) (λ_ _=>⟨rfl,rfl⟩) (λ_ _=>⟨rfl,rfl⟩) QL
def con:Con:=J9 g f m default
theorem con_ok:QR Try.prog 72 con:=QG known (λ_=>rfl) rfl
end M72
namespace M64
structure gX where(a b:List (List (Int)))
def g:Sg gX:=⟨[.c (.arr (.sl (.int .u8))),.c (.arr (.sl (.int .u8)))],[],λa b=>⟨a.1,a.2.1⟩,λx=>(x.a,(x.b,())),λx=>()⟩
abbrev fY:=Bool
def f:Ft fY:=⟨none,.c (.bo),[],λa b=>(a),λy=>y,λy=>()⟩
def cl:List (FuncId×Con):=[]
theorem Q3:QF Try.prog cl:=trivial
def E2:Env:=⟨ty,QN cl,λ_=>none,none⟩
structure p1X where(a b:List (List (Int)))(i k:Int)
def p1:Pt p1X where
 own:=[]
 t:=⟨[(0,.c (.arr (.sl (.int .u8)))),(1,.c (.arr (.sl (.int .u8)))),(5,.c (.it .i64)),(6,.c (.it .i64))],[]⟩
 to:=λv=>⟨v.1.1,v.1.2.1,v.1.2.2.1,v.1.2.2.2.1⟩
 fr:=λx=>((x.a,(x.b,(x.i,(x.k,())))),())
structure q1X where(a b:List (List (Int)))(i:Int)
def q1:Pt q1X where
 own:=[]
 t:=⟨[(0,.c (.arr (.sl (.int .u8)))),(1,.c (.arr (.sl (.int .u8)))),(5,.c (.it .i64))],[]⟩
 to:=λv=>⟨v.1.1,v.1.2.1,v.1.2.2.1⟩
 fr:=λx=>((x.a,(x.b,(x.i,()))),())
structure z1X where(r:Bool)
def z1:Pt z1X where
 own:=[]
 t:=⟨[(4,.c (.bo))],[]⟩
 to:=λv=>⟨v.1.1⟩
 fr:=λx=>((x.r,()),())
def s1(x:p1X):Option (p1X⊕(q1X⊕z1X)):=bif inR x.i x.b.length then bif decide (x.k<(↑(List.length (x.b[x.i.toNat]?.getD [])):Int)) then bif inR x.i x.b.length then bif inR x.k (List.length (x.b[x.i.toNat]?.getD [])) then bif inR x.i x.b.length||!(x.b[x.i.toNat]?.getD [])[x.k.toNat]?.getD 0 !=2 then bif inR x.k (List.length (x.b[x.i.toNat]?.getD []))||!(x.b[x.i.toNat]?.getD [])[x.k.toNat]?.getD 0 !=2 then bif inR x.i x.a.length||!(x.b[x.i.toNat]?.getD [])[x.k.toNat]?.getD 0 !=2 then bif inR x.k (List.length (x.a[x.i.toNat]?.getD []))||!(x.b[x.i.toNat]?.getD [])[x.k.toNat]?.getD 0 !=2 then bif bif (x.b[x.i.toNat]?.getD [])[x.k.toNat]?.getD 0 !=2 then (x.b[x.i.toNat]?.getD [])[x.k.toNat]?.getD 0 !=(x.a[x.i.toNat]?.getD [])[x.k.toNat]?.getD 0 else false then some (Sum.inr (Sum.inr ⟨false⟩)) else some (Sum.inl ⟨x.a,x.b,x.i,IntKind.i64.wrap (x.k+1)⟩) else none else none else none else none else none else none else some (Sum.inr (Sum.inl ⟨x.a,x.b,x.i⟩)) else none
theorem X3(x:p1X):exec E2 63 (C64.Q2 1) 2 (p1.R x) (p1.H x) (JF 0 p1 (.exit 2) q1 .ret z1)=s1 x:=by kernel_rfl
def l1:QU:=JG 0 p1 (.exit 2) q1 .ret z1 s1
theorem tl1:QI (C64.Q2 1) 2=[]:=by kernel_rfl
theorem X6  :QH Try.prog 63 none 0 (C64.Q2 1) l1:=Qi mixed (Q5 QB Q3 _) (by trivial) (by trivial) (λ_=>rfl) (λ_=>rfl) (λ_=>rfl) (tl1▸QA.nil) X3
def E1:Env:=⟨ty,QN cl,JH [(1,l1)],none⟩
structure p0X where(a b:List (List (Int)))(i:Int)
def p0:Pt p0X where
 own:=[]
 t:=⟨[(0,.c (.arr (.sl (.int .u8)))),(1,.c (.arr (.sl (.int .u8)))),(5,.c (.it .i64))],[]⟩
 to:=λv=>⟨v.1.1,v.1.2.1,v.1.2.2.1⟩
 fr:=λx=>((x.a,(x.b,(x.i,()))),())
abbrev q0X:=Unit
def q0:Pt q0X where
 own:=[]
 t:=⟨[],[]⟩
 to:=λv=>()
 fr:=λx=>((),())
structure z0X where(r:Bool)
def z0:Pt z0X where
 own:=[]
 t:=⟨[(4,.c (.bo))],[]⟩
 to:=λv=>⟨v.1.1⟩
 fr:=λx=>((x.r,()),())
def s0(x:p0X):Option (p0X⊕(q0X⊕z0X)):=bif decide (x.i<(↑x.b.length:Int)) then bif inR x.i x.a.length then bif inR x.i x.b.length then bif (↑(List.length (x.a[x.i.toNat]?.getD [])):Int) !=(↑(List.length (x.b[x.i.toNat]?.getD [])):Int) then some (Sum.inr (Sum.inr ⟨false⟩)) else bindO (iter s1 ⟨x.a,x.b,x.i,0⟩) λs=>sumC s (λy=>some (Sum.inl ⟨y.a,y.b,IntKind.i64.wrap (y.i+1)⟩)) λz=>some (Sum.inr (Sum.inr ⟨z.r⟩)) else none else none else some (Sum.inr (Sum.inl PUnit.unit))
theorem QZ(x:p0X):exec E1 63 (C64.Q2 0) 1 (p0.R x) (p0.H x) (JF 0 p0 (.exit 0) q0 .ret z0)=s0 x:=by kernel_rfl
def l0:QU:=JG 0 p0 (.exit 0) q0 .ret z0 s0
theorem tl0:QI (C64.Q2 0) 1=[(1,C64.Q2 1)]:=by kernel_rfl
theorem Qa  :QH Try.prog 63 none 0 (C64.Q2 0) l0:=Qi mixed (Q5 QB Q3 _) (by trivial) (by trivial) (λ_=>rfl) (λ_=>rfl) (λ_=>rfl) (tl0▸(QA.cons rfl X6 QA.nil)) QZ
def E0:Env:=⟨ty,QN cl,JH [(0,l0),(1,l1)],none⟩
def m(x:gX):Option fY:=bif (↑x.a.length:Int) !=(↑x.b.length:Int) then some false else bindO (iter s0 ⟨x.a,x.b,0⟩) λs=>sumC s (λy=>some true) λz=>some z.r
theorem QL(x:gX):exec E0 63 C64 0 (QP 0 (g.A x)) (g.H x) (finish 0 ty [.tmp 4] f)=m x:=by kernel_rfl
theorem tl:QI C64 0=[(0,C64.Q2 0)]:=by kernel_rfl
theorem known:QM Try.prog 64 g f m:=
 Q8 mixed (Q5 QB Q3 _) s64 rfl rfl tl (QA.cons rfl Qa QA.nil) (λ_ _=>⟨rfl,rfl⟩) (λ_ _=>⟨rfl,rfl⟩) QL
def con:Con:=J9 g f m default
theorem con_ok:QR Try.prog 64 con:=QG known (λ_=>rfl) rfl
end M64
namespace M96
structure gX where(n t:Int)(ph:List (Int))(c:Int)(l:List (List (Int)))
def g:Sg gX:=⟨[.agg [.it .i64,.it .u64,.arr (.int .u64),.it .i64],.c (.arr (.sl (.int .u8)))],[],λa b=>⟨a.1.1,a.1.2.1,a.1.2.2.1,a.1.2.2.2.1,a.2.1⟩,λx=>((x.n,(x.t,(x.ph,(x.c,())))),(x.l,())),λx=>()⟩
abbrev fY:=Int
def f:Ft fY:=⟨none,.c (.it .i64),[],λa b=>(a),λy=>y,λy=>()⟩
def cl:List (FuncId×Con):=[]
theorem Q3:QF Try.prog cl:=trivial
def E3:Env:=⟨ty,QN cl,λ_=>none,none⟩
structure p2X where(l:List (List (Int)))(n i:Int)(r:List (Int))(n2 i2:Int)
def p2:Pt p2X where
 own:=[]
 t:=⟨[(29,.c (.arr (.sl (.int .u8)))),(30,.c (.it .i64)),(31,.c (.it .i64)),(35,.c (.arr (.int .u8))),(36,.c (.it .i64)),(37,.c (.it .i64))],[]⟩
 to:=λv=>⟨v.1.1,v.1.2.1,v.1.2.2.1,v.1.2.2.2.1,v.1.2.2.2.2.1,v.1.2.2.2.2.2.1⟩
 fr:=λx=>((x.l,(x.n,(x.i,(x.r,(x.n2,(x.i2,())))))),())
structure q2X where(l:List (List (Int)))(n i:Int)
def q2:Pt q2X where
 own:=[]
 t:=⟨[(29,.c (.arr (.sl (.int .u8)))),(30,.c (.it .i64)),(31,.c (.it .i64))],[]⟩
 to:=λv=>⟨v.1.1,v.1.2.1,v.1.2.2.1⟩
 fr:=λx=>((x.l,(x.n,(x.i,()))),())
structure z2X where(e:Int)
def z2:Pt z2X where
 own:=[]
 t:=⟨[(4,.c (.it .i64))],[]⟩
 to:=λv=>⟨v.1.1⟩
 fr:=λx=>((x.e,()),())
def s2(x:p2X):Option (p2X⊕(q2X⊕z2X)):=bif decide (x.i2<x.n2) then bif inR x.i2 x.r.length then bif decide (x.r[x.i2.toNat]?.getD 0>2) then some (Sum.inr (Sum.inr ⟨1⟩)) else some (Sum.inl ⟨x.l,x.n,x.i,x.r,x.n2,IntKind.i64.wrap (x.i2+1)⟩) else none else some (Sum.inr (Sum.inl ⟨x.l,x.n,x.i⟩))
theorem VI(x:p2X):exec E3 45 (C96.Q2 2) 3 (p2.R x) (p2.H x) (JF 0 p2 (.exit 4) q2 .ret z2)=s2 x:=by kernel_rfl
def l2:QU:=JG 0 p2 (.exit 4) q2 .ret z2 s2
theorem tl2:QI (C96.Q2 2) 3=[]:=by kernel_rfl
theorem Vi  :QH Try.prog 45 none 0 (C96.Q2 2) l2:=Qi mixed (Q5 QB Q3 _) (by trivial) (by trivial) (λ_=>rfl) (λ_=>rfl) (λ_=>rfl) (tl2▸QA.nil) VI
def E2:Env:=⟨ty,QN cl,JH [(2,l2)],none⟩
structure p1X where(l:List (List (Int)))(n i:Int)
def p1:Pt p1X where
 own:=[]
 t:=⟨[(29,.c (.arr (.sl (.int .u8)))),(30,.c (.it .i64)),(31,.c (.it .i64))],[]⟩
 to:=λv=>⟨v.1.1,v.1.2.1,v.1.2.2.1⟩
 fr:=λx=>((x.l,(x.n,(x.i,()))),())
abbrev q1X:=Unit
def q1:Pt q1X where
 own:=[]
 t:=⟨[],[]⟩
 to:=λv=>()
 fr:=λx=>((),())
structure z1X where(e:Int)
def z1:Pt z1X where
 own:=[]
 t:=⟨[(4,.c (.it .i64))],[]⟩
 to:=λv=>⟨v.1.1⟩
 fr:=λx=>((x.e,()),())
def s1(x:p1X):Option (p1X⊕(q1X⊕z1X)):=bif decide (x.i<x.n) then bif inR x.i x.l.length then bindO (iter s2 ⟨x.l,x.n,x.i,x.l[x.i.toNat]?.getD [],(↑(List.length (x.l[x.i.toNat]?.getD [])):Int),0⟩) λs=>sumC s (λy=>some (Sum.inl ⟨y.l,y.n,IntKind.i64.wrap (y.i+1)⟩)) λz=>some (Sum.inr (Sum.inr ⟨z.e⟩)) else none else some (Sum.inr (Sum.inl PUnit.unit))
theorem X3(x:p1X):exec E2 45 (C96.Q2 1) 2 (p1.R x) (p1.H x) (JF 0 p1 (.exit 2) q1 .ret z1)=s1 x:=by kernel_rfl
def l1:QU:=JG 0 p1 (.exit 2) q1 .ret z1 s1
theorem tl1:QI (C96.Q2 1) 2=[(2,C96.Q2 2)]:=by kernel_rfl
theorem X6  :QH Try.prog 45 none 0 (C96.Q2 1) l1:=Qi mixed (Q5 QB Q3 _) (by trivial) (by trivial) (λ_=>rfl) (λ_=>rfl) (λ_=>rfl) (tl1▸(QA.cons rfl Vi QA.nil)) X3
def E1:Env:=⟨ty,QN cl,JH [(1,l1),(2,l2)],none⟩
structure p0X where(l l2:List (List (Int)))(n i n2 t:Int)(ph:List (Int))(c:Int)
def p0:Pt p0X where
 own:=[]
 t:=⟨[(1,.c (.arr (.sl (.int .u8)))),(2,.c (.ptr 0 0)),(17,.c (.arr (.sl (.int .u8)))),(18,.c (.it .i64)),(19,.c (.it .i64))],[.st [.it .i64,.it .u64,.arr (.int .u64),.it .i64] 1 0]⟩
 to:=λv=>⟨v.1.1,v.1.2.2.1,v.1.2.2.2.1,v.1.2.2.2.2.1,v.2.1.1,v.2.1.2.1,v.2.1.2.2.1,v.2.1.2.2.2.1⟩
 fr:=λx=>((x.l,((),(x.l2,(x.n,(x.i,()))))),((x.n2,(x.t,(x.ph,(x.c,())))),()))
structure q0X where(l:List (List (Int)))
def q0:Pt q0X where
 own:=[]
 t:=⟨[(1,.c (.arr (.sl (.int .u8))))],[]⟩
 to:=λv=>⟨v.1.1⟩
 fr:=λx=>((x.l,()),())
structure z0X where(e:Int)
def z0:Pt z0X where
 own:=[]
 t:=⟨[(4,.c (.it .i64))],[]⟩
 to:=λv=>⟨v.1.1⟩
 fr:=λx=>((x.e,()),())
def s0(x:p0X):Option (p0X⊕(q0X⊕z0X)):=bif decide (x.i<x.n) then bif inR x.i x.l2.length then bif (↑(List.length (x.l2[x.i.toNat]?.getD [])):Int) !=x.c then some (Sum.inr (Sum.inr ⟨8⟩)) else some (Sum.inl ⟨x.l,x.l2,x.n,IntKind.i64.wrap (x.i+1),x.n2,x.t,x.ph,x.c⟩) else none else some (Sum.inr (Sum.inl ⟨x.l⟩))
theorem QZ(x:p0X):exec E1 45 (C96.Q2 0) 1 (p0.R x) (p0.H x) (JF 0 p0 (.exit 0) q0 .ret z0)=s0 x:=by kernel_rfl
def l0:QU:=JG 0 p0 (.exit 0) q0 .ret z0 s0
theorem tl0:QI (C96.Q2 0) 1=[]:=by kernel_rfl
theorem Qa  :QH Try.prog 45 none 0 (C96.Q2 0) l0:=Qi mixed (Q5 QB Q3 _) (by trivial) (by trivial) (λ_=>rfl) (λ_=>rfl) (λ_=>rfl) (tl0▸QA.nil) QZ
def E0:Env:=⟨ty,QN cl,JH [(0,l0),(1,l1),(2,l2)],none⟩
def m(x:gX):Option fY:=bif (↑x.l.length:Int) !=(↑x.ph.length:Int) then some 8 else bindO (iter s0 ⟨x.l,x.l,(↑x.l.length:Int),0,x.n,x.t,x.ph,x.c⟩) λs=>sumC s (λy=>bindO (iter s1 ⟨y.l,(↑y.l.length:Int),0⟩) λs=>sumC s (λy=>some 0) λz=>some z.e) λz=>some z.e
theorem QL(x:gX):exec E0 45 C96 0 (QP 0 (g.A x)) (g.H x) (finish 0 ty [.tmp 4] f)=m x:=by kernel_rfl
theorem tl:QI C96 0=[(0,C96.Q2 0),(1,C96.Q2 1)]:=by kernel_rfl
theorem known:QM Try.prog 96 g f m:=
 Q8 mixed (Q5 QB Q3 _) s96 rfl rfl tl (QA.cons rfl Qa (QA.cons rfl X6 QA.nil)) (λ_ _=>⟨rfl,rfl⟩) (λ_ _=>⟨rfl,rfl⟩) QL
def con:Con:=J9 g f m default
theorem con_ok:QR Try.prog 96 con:=QG known (λ_=>rfl) rfl
end M96
