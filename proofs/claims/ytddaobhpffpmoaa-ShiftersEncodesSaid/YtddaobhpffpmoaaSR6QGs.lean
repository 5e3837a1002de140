/-
  What the proof stands on.
-/
import Derived.Test.YtddaobhpffpmoaaSR6QGa
import Derived.Test.YtddaobhpffpmoaaSR6QG9
import Derived.Test.YtddaobhpffpmoaaSR6QGb
set_option linter.all false
noncomputable section
namespace Go.Proofs.Ytddaobhpffpmoaa
open Go.Abs
set_option maxRecDepth 100000
namespace M110
structure gX where
 x:Int
def g:Sg gX where
 vs:=[.c (.it .u64)]
 h:=[]
 to:=fun a b=>⟨a.1⟩
 fa:=fun x=>(x.x,())
 fh:=fun x=>()
abbrev fY:=Int
def f:Ft fY where
 ord:=none
 sh:=.c (.it .u64)
 h:=[]
 to:=fun a b=>(a)
 fv:=fun y=>y
 fh:=fun y=>()
def cl:List (FuncId×Con):=[(108,M108.con)]
theorem cl_ok:allCon Try.prog cl:=⟨M108.con_ok,trivial⟩
def E0:Env:=⟨ty,cfOf cl,fun _=>none,none⟩
def m(x:gX):Option fY:=bindO (M108.m ⟨x.x⟩) fun y=>some (IntKind.u64.wrap (Int.tmod y 2))
theorem m_eq(x:gX):exec E0 7 C110 0 (initS 0 (g.A x)) (g.H x) (finish 0 ty [.tmp 2] f)=m x:=by kernel_rfl
theorem tl:topL C110 0=[]:=by kernel_rfl
theorem known:Known Try.prog 110 g f m:=
 mk_known mixed (env_ok ty_ok cl_ok _) s110 rfl rfl tl AllL.nil (fun _ _=>⟨rfl,rfl⟩) (fun _ _=>⟨rfl,rfl⟩) m_eq
def con:Con:=conT g f m default
theorem con_ok:ConOk Try.prog 110 con:=conT_ok known (fun _=>rfl) rfl
end M110
namespace M93
structure gX where
 n:Int
 t:Int
 s:Int
def g:Sg gX where
 vs:=[.c (.ptr 0 0)]
 h:=[.st [.it .i64,.it .u64,.it .u64] 1 0]
 to:=fun a b=>⟨b.1.1,b.1.2.1,b.1.2.2.1⟩
 fa:=fun x=>((),())
 fh:=fun x=>((x.n,(x.t,(x.s,()))),())
abbrev fY:=Int×Int×Int
def f:Ft fY where
 ord:=none
 sh:=.tup []
 h:=[.st [.it .i64,.it .u64,.it .u64] 1 0]
 to:=fun a b=>(b.1.1,b.1.2.1,b.1.2.2.1)
 fv:=fun y=>()
 fh:=fun y=>((y.1,(y.2.1,(y.2.2,()))),())
def cl:List (FuncId×Con):=[(110,M110.con)]
theorem cl_ok:allCon Try.prog cl:=⟨M110.con_ok,trivial⟩
def E0:Env:=⟨ty,cfOf cl,fun _=>none,none⟩
def m(x:gX):Option fY:=bindO (M110.m ⟨IntKind.u64.wrap (↑(BitVec.ofInt 64 x.s&&&BitVec.ofInt 64 x.t).toNat:Int)⟩) fun y=>bif decide (x.n<64) then bif decide (0≤x.n) then some (x.n,x.t,IntKind.u64.wrap (↑(BitVec.ofInt 64 (IntKind.u64.wrap (↑(BitVec.ofInt 64 (IntKind.u64.wrap (x.s*2^1))|||BitVec.ofInt 64 y).toNat:Int))&&&BitVec.ofInt 64 (IntKind.u64.wrap (IntKind.u64.wrap (1*2^min x.n.toNat 64) - 1))).toNat:Int)) else none else some (x.n,x.t,IntKind.u64.wrap (↑(BitVec.ofInt 64 (IntKind.u64.wrap (x.s*2^1))|||BitVec.ofInt 64 y).toNat:Int))
theorem m_eq(x:gX):exec E0 42 C93 0 (initS 0 (g.A x)) (g.H x) (finish 1 ty [] f)=m x:=by kernel_rfl
theorem tl:topL C93 0=[]:=by kernel_rfl
theorem known:Known Try.prog 93 g f m:=
 mk_known mixed (env_ok ty_ok cl_ok _) s93 rfl rfl tl AllL.nil (fun _ _=>⟨rfl,rfl⟩) (fun _ _=>⟨rfl,rfl⟩) m_eq
def con:Con:=conG g [.arg 0 0] f m default
theorem con_ok:ConOk Try.prog 93 con:=conG_ok known
end M93
namespace M100
structure gX where
 x:Int
 n:Int
def g:Sg gX where
 vs:=[.c (.it .u64),.c (.it .i64)]
 h:=[]
 to:=fun a b=>⟨a.1,a.2.1⟩
 fa:=fun x=>(x.x,(x.n,()))
 fh:=fun x=>()
abbrev fY:=Bool
def f:Ft fY where
 ord:=none
 sh:=.c (.bo)
 h:=[]
 to:=fun a b=>(a)
 fv:=fun y=>y
 fh:=fun y=>()
def cl:List (FuncId×Con):=[]
theorem cl_ok:allCon Try.prog cl:=trivial
def E0:Env:=⟨ty,cfOf cl,fun _=>none,none⟩
def m(x:gX):Option fY:=bif decide (0≤x.n)||!decide (x.n<64) then some (bif decide (x.n<64) then x.x.fdiv (2^min x.n.toNat 64) !=0 else false) else none
theorem m_eq(x:gX):exec E0 13 C100 0 (initS 0 (g.A x)) (g.H x) (finish 0 ty [.tmp 4] f)=m x:=by kernel_rfl
theorem tl:topL C100 0=[]:=by kernel_rfl
theorem known:Known Try.prog 100 g f m:=
 mk_known mixed (env_ok ty_ok cl_ok _) s100 rfl rfl tl AllL.nil (fun _ _=>⟨rfl,rfl⟩) (fun _ _=>⟨rfl,rfl⟩) m_eq
def con:Con:=conT g f m default
theorem con_ok:ConOk Try.prog 100 con:=conT_ok known (fun _=>rfl) rfl
end M100
namespace M71
structure gX where
 n:Int
 t:Int
def g:Sg gX where
 vs:=[.agg [.it .i64,.it .u64]]
 h:=[]
 to:=fun a b=>⟨a.1.1,a.1.2.1⟩
 fa:=fun x=>((x.n,(x.t,())),())
 fh:=fun x=>()
abbrev fY:=Int
def f:Ft fY where
 ord:=none
 sh:=.c (.it .i64)
 h:=[]
 to:=fun a b=>(a)
 fv:=fun y=>y
 fh:=fun y=>()
def cl:List (FuncId×Con):=[(100,M100.con)]
theorem cl_ok:allCon Try.prog cl:=⟨M100.con_ok,trivial⟩
def E0:Env:=⟨ty,cfOf cl,fun _=>none,none⟩
def m(x:gX):Option fY:=bif decide (x.n<1) then some 1 else bif decide (x.n>64) then some 3 else bindO (M100.m ⟨x.t,x.n⟩) fun y=>bif decide (0≤IntKind.i64.wrap (x.n - 1))||!!y then bif bif y then true else x.t.fdiv (2^min (IntKind.i64.wrap (x.n - 1)).toNat 64)==0 then some 1 else some 0 else none
theorem m_eq(x:gX):exec E0 26 C71 0 (initS 0 (g.A x)) (g.H x) (finish 0 ty [.tmp 2] f)=m x:=by kernel_rfl
theorem tl:topL C71 0=[]:=by kernel_rfl
theorem known:Known Try.prog 71 g f m:=
 mk_known mixed (env_ok ty_ok cl_ok _) s71 rfl rfl tl AllL.nil (fun _ _=>⟨rfl,rfl⟩) (fun _ _=>⟨rfl,rfl⟩) m_eq
def con:Con:=conT g f m default
theorem con_ok:ConOk Try.prog 71 con:=conT_ok known (fun _=>rfl) rfl
end M71
namespace M91
structure gX where
 n:Int
 t:Int
 s:Int
def g:Sg gX where
 vs:=[.agg [.it .i64,.it .u64],.c (.it .u64)]
 h:=[]
 to:=fun a b=>⟨a.1.1,a.1.2.1,a.2.1⟩
 fa:=fun x=>((x.n,(x.t,())),(x.s,()))
 fh:=fun x=>()
abbrev fY:=Int×Int×Int×Int
def f:Ft fY where
 ord:=none
 sh:=.tup [.inr [.it .i64,.it .u64,.it .u64],.inl (.it .i64)]
 h:=[]
 to:=fun a b=>(a.1.1,a.1.2.1,a.1.2.2.1,a.2.1)
 fv:=fun y=>((y.1,(y.2.1,(y.2.2.1,()))),(y.2.2.2,()))
 fh:=fun y=>()
def cl:List (FuncId×Con):=[(71,M71.con),(100,M100.con)]
theorem cl_ok:allCon Try.prog cl:=⟨M71.con_ok,M100.con_ok,trivial⟩
def E0:Env:=⟨ty,cfOf cl,fun _=>none,none⟩
def m(x:gX):Option fY:=bindO (M71.m ⟨x.n,x.t⟩) fun y=>bif y !=0 then some (0,0,0,y) else bindO (M100.m ⟨x.s,x.n⟩) fun y=>bif y then some (0,0,0,1) else some (x.n,x.t,x.s,0)
theorem m_eq(x:gX):exec E0 21 C91 0 (initS 0 (g.A x)) (g.H x) (finish 0 ty [.cell 4 156,.tmp 5] f)=m x:=by kernel_rfl
theorem tl:topL C91 0=[]:=by kernel_rfl
theorem known:Known Try.prog 91 g f m:=
 mk_known mixed (env_ok ty_ok cl_ok _) s91 rfl rfl tl AllL.nil (fun _ _=>⟨rfl,rfl⟩) (fun _ _=>⟨rfl,rfl⟩) m_eq
def con:Con:=conT g f m default
theorem con_ok:ConOk Try.prog 91 con:=conT_ok known (fun _=>rfl) rfl
end M91
namespace M58
structure gX where
 n:Int
 t:Int
 s:Int
def g:Sg gX where
 vs:=[.agg [.it .i64,.it .u64],.c (.it .u64)]
 h:=[]
 to:=fun a b=>⟨a.1.1,a.1.2.1,a.2.1⟩
 fa:=fun x=>((x.n,(x.t,())),(x.s,()))
 fh:=fun x=>()
abbrev fY:=Int×Int
def f:Ft fY where
 ord:=none
 sh:=.tup [.inl (.it .u64),.inl (.it .i64)]
 h:=[]
 to:=fun a b=>(a.1,a.2.1)
 fv:=fun y=>(y.1,(y.2,()))
 fh:=fun y=>()
def cl:List (FuncId×Con):=[(91,M91.con),(93,M93.con)]
theorem cl_ok:allCon Try.prog cl:=⟨M91.con_ok,M93.con_ok,trivial⟩
def E0:Env:=⟨ty,cfOf cl,fun _=>none,none⟩
def m(x:gX):Option fY:=bindO (M91.m ⟨x.n,x.t,x.s⟩) fun y=>bif y.2.2.2 !=0 then some (0,y.2.2.2) else bindO (M93.m ⟨y.1,y.2.1,y.2.2.1⟩) fun y=>some (y.2.2,0)
theorem m_eq(x:gX):exec E0 20 C58 0 (initS 0 (g.A x)) (g.H x) (finish 0 ty [.tmp 4,.tmp 5] f)=m x:=by kernel_rfl
theorem tl:topL C58 0=[]:=by kernel_rfl
theorem known:Known Try.prog 58 g f m:=
 mk_known mixed (env_ok ty_ok cl_ok _) s58 rfl rfl tl AllL.nil (fun _ _=>⟨rfl,rfl⟩) (fun _ _=>⟨rfl,rfl⟩) m_eq
def con:Con:=conT g f m default
theorem con_ok:ConOk Try.prog 58 con:=conT_ok known (fun _=>rfl) rfl
end M58
namespace M54
structure gX where
 n:Int
 t:Int
def g:Sg gX where
 vs:=[.agg [.it .u8,.it .u64]]
 h:=[]
 to:=fun a b=>⟨a.1.1,a.1.2.1⟩
 fa:=fun x=>((x.n,(x.t,())),())
 fh:=fun x=>()
abbrev fY:=Int×Int
def f:Ft fY where
 ord:=none
 sh:=.agg [.it .i64,.it .u64]
 h:=[]
 to:=fun a b=>(a.1,a.2.1)
 fv:=fun y=>(y.1,(y.2,()))
 fh:=fun y=>()
def cl:List (FuncId×Con):=[]
theorem cl_ok:allCon Try.prog cl:=trivial
def E0:Env:=⟨ty,cfOf cl,fun _=>none,none⟩
def m(x:gX):Option fY:=bif decide (0≤IntKind.i64.wrap (1+IntKind.i64.wrap (x.n.tmod 16))) then bif nz (IntKind.u64.wrap (1*2^min (IntKind.i64.wrap (1+IntKind.i64.wrap (x.n.tmod 16))).toNat 64)) then bif decide (0≤IntKind.i64.wrap (IntKind.i64.wrap (1+IntKind.i64.wrap (x.n.tmod 16)) - 1)) then some (IntKind.i64.wrap (1+IntKind.i64.wrap (x.n.tmod 16)),IntKind.u64.wrap (↑(BitVec.ofInt 64 (x.t.tmod (IntKind.u64.wrap (1*2^min (IntKind.i64.wrap (1+IntKind.i64.wrap (x.n.tmod 16))).toNat 64)))|||BitVec.ofInt 64 (IntKind.u64.wrap (1*2^min (IntKind.i64.wrap (IntKind.i64.wrap (1+IntKind.i64.wrap (x.n.tmod 16)) - 1)).toNat 64))).toNat:Int)) else none else none else none
theorem m_eq(x:gX):exec E0 20 C54 0 (initS 0 (g.A x)) (g.H x) (finish 0 ty [.cell 2 91] f)=m x:=by kernel_rfl
theorem tl:topL C54 0=[]:=by kernel_rfl
theorem known:Known Try.prog 54 g f m:=
 mk_known mixed (env_ok ty_ok cl_ok _) s54 rfl rfl tl AllL.nil (fun _ _=>⟨rfl,rfl⟩) (fun _ _=>⟨rfl,rfl⟩) m_eq
def con:Con:=conT g f m default
theorem con_ok:ConOk Try.prog 54 con:=conT_ok known (fun _=>rfl) rfl
end M54
end Go.Proofs.Ytddaobhpffpmoaa
namespace Go.Proofs.Ytddaobhpffpmoaa
open Go.Abs
set_option maxRecDepth 100000
namespace M60
structure gX where
 n:Int
 t:Int
 ph:List (Int)
 c:Int
def g:Sg gX where
 vs:=[.agg [.it .u8,.it .u64,.arr (.int .u64),.it .u8]]
 h:=[]
 to:=fun a b=>⟨a.1.1,a.1.2.1,a.1.2.2.1,a.1.2.2.2.1⟩
 fa:=fun x=>((x.n,(x.t,(x.ph,(x.c,())))),())
 fh:=fun x=>()
abbrev fY:=Int×Int×List (Int)×Int
def f:Ft fY where
 ord:=none
 sh:=.agg [.it .i64,.it .u64,.arr (.int .u64),.it .i64]
 h:=[]
 to:=fun a b=>(a.1,a.2.1,a.2.2.1,a.2.2.2.1)
 fv:=fun y=>(y.1,(y.2.1,(y.2.2.1,(y.2.2.2,()))))
 fh:=fun y=>()
def cl:List (FuncId×Con):=[(54,M54.con)]
theorem cl_ok:allCon Try.prog cl:=⟨M54.con_ok,trivial⟩
def E1:Env:=⟨ty,cfOf cl,fun _=>none,none⟩
structure p0X where
 i:Int
 dn:Int
 dt:Int
 dph:List (Int)
 dc:Int
 ln:Int
 lt:Int
 n:Int
 t:Int
 ph_lo:Nat
 ph_len:Nat
 c:Int
 out:List (Int)
def p0:Pt p0X where
 own:=[.cell 3 2 (.int .u64)]
 t:=⟨[(1,.c (.ptr 0 0)),(2,.c (.ptr 1 0)),(3,.c (.ptr 2 0)),(4,.c (.ptr 3 0)),(5,.c (.it .i64))],[.st [.it .u8,.it .u64,.arr (.int .u64),.it .u8] 1 0,.st [.junk,.junk,.junk,.junk] 1 0,.st [.it .i64,.it .u64] 1 0,.st [.it .i64,.it .u64,.sl 4 0 1,.it .i64] 1 0,.arr (.int .u64) 0]⟩
 to:=fun v=>⟨v.1.2.2.2.2.1,v.2.1.1,v.2.1.2.1,v.2.1.2.2.1,v.2.1.2.2.2.1,v.2.2.2.1.1,v.2.2.2.1.2.1,v.2.2.2.2.1.1,v.2.2.2.2.1.2.1,v.2.2.2.2.1.2.2.1.1,v.2.2.2.2.1.2.2.1.2,v.2.2.2.2.1.2.2.2.1,v.2.2.2.2.2.1⟩
 fr:=fun x=>(((),((),((),((),(x.i,()))))),((x.dn,(x.dt,(x.dph,(x.dc,())))),(((),((),((),((),())))),((x.ln,(x.lt,())),((x.n,(x.t,((x.ph_lo,x.ph_len),(x.c,())))),(x.out,()))))))
structure q0X where
 dn:Int
 dt:Int
 dph:List (Int)
 dc:Int
 ln:Int
 lt:Int
 n:Int
 t:Int
 ph:List (Int)
 c:Int
def q0:Pt q0X where
 own:=[]
 t:=⟨[(2,.c (.ptr 1 0)),(4,.c (.ptr 3 0))],[.st [.it .u8,.it .u64,.arr (.int .u64),.it .u8] 1 0,.st [.junk,.junk,.junk,.junk] 1 0,.st [.it .i64,.it .u64] 1 0,.st [.it .i64,.it .u64,.arr (.int .u64),.it .i64] 1 0]⟩
 to:=fun v=>⟨v.2.1.1,v.2.1.2.1,v.2.1.2.2.1,v.2.1.2.2.2.1,v.2.2.2.1.1,v.2.2.2.1.2.1,v.2.2.2.2.1.1,v.2.2.2.2.1.2.1,v.2.2.2.2.1.2.2.1,v.2.2.2.2.1.2.2.2.1⟩
 fr:=fun x=>(((),((),())),((x.dn,(x.dt,(x.dph,(x.dc,())))),(((),((),((),((),())))),((x.ln,(x.lt,())),((x.n,(x.t,(x.ph,(x.c,())))),())))))
def s0(x:p0X):Option (p0X⊕q0X):=bif decide (x.i<(↑x.dph.length:Int)) then bif inR x.i x.dph.length then bif decide (0≤x.ln) then bif nz (IntKind.u64.wrap (1*2^min x.ln.toNat 64)) then bif eqN x.ph_lo 0&&eqN x.out.length x.ph_len&&roomB (x.ph_len+1) 8 then some (Sum.inl ⟨IntKind.i64.wrap (x.i+1),x.dn,x.dt,x.dph,x.dc,x.ln,x.lt,x.n,x.t,0,x.ph_len+1,x.c,x.out++[Int.tmod (x.dph[x.i.toNat]?.getD 0) (IntKind.u64.wrap (1*2^min x.ln.toNat 64))]⟩) else none else none else none else none else bif leB (x.ph_lo+x.ph_len) x.out.length&&true&&true then some (Sum.inr ⟨x.dn,x.dt,x.dph,x.dc,x.ln,x.lt,x.n,x.t,List.take x.ph_len (List.drop x.ph_lo x.out),x.c⟩) else none
theorem s0_eq(x:p0X):exec E1 37 (C60.bodyAt 0) 1 (p0.R x) (p0.H x) (roundK 0 p0 (.exit 0) q0)=s0 x:=by kernel_rfl
def l0:LoopS:=mkLoop 0 p0 (.exit 0) q0 s0
theorem tl0:topL (C60.bodyAt 0) 1=[]:=by kernel_rfl
theorem l0_ok  :LoopOkS Try.prog 37 none 0 (C60.bodyAt 0) l0:=mkLoop_ok mixed (env_ok ty_ok cl_ok _) (by trivial) (fun _=>rfl) (fun _=>rfl) (tl0▸AllL.nil) s0_eq
def E0:Env:=⟨ty,cfOf cl,lpOf [(0,l0)],none⟩
def m(x:gX):Option fY:=bindO (M54.m ⟨x.n,x.t⟩) fun y=>bindO (iter s0 ⟨0,x.n,x.t,x.ph,x.c,y.1,y.2,y.1,y.2,0,0,IntKind.i64.wrap (x.c.tmod 13),[]⟩) fun y=>some (y.n,y.t,y.ph,y.c)
theorem m_eq(x:gX):exec E0 37 C60 0 (initS 0 (g.A x)) (g.H x) (finish 0 ty [.cell 2 102] f)=m x:=by kernel_rfl
theorem tl:topL C60 0=[(0,C60.bodyAt 0)]:=by kernel_rfl
theorem known:Known Try.prog 60 g f m:=
 mk_known mixed (env_ok ty_ok cl_ok _) s60 rfl rfl tl (AllL.cons rfl l0_ok AllL.nil) (fun _ _=>⟨rfl,rfl⟩) (fun _ _=>⟨rfl,rfl⟩) m_eq
def con:Con:=conT g f m default
theorem con_ok:ConOk Try.prog 60 con:=conT_ok known (fun _=>rfl) rfl
end M60
namespace M72
structure gX where
 n:Int
 t:Int
 ph:List (Int)
 c:Int
def g:Sg gX where
 vs:=[.agg [.it .i64,.it .u64,.arr (.int .u64),.it .i64]]
 h:=[]
 to:=fun a b=>⟨a.1.1,a.1.2.1,a.1.2.2.1,a.1.2.2.2.1⟩
 fa:=fun x=>((x.n,(x.t,(x.ph,(x.c,())))),())
 fh:=fun x=>()
abbrev fY:=Int
def f:Ft fY where
 ord:=none
 sh:=.c (.it .i64)
 h:=[]
 to:=fun a b=>(a)
 fv:=fun y=>y
 fh:=fun y=>()
def cl:List (FuncId×Con):=[(71,M71.con),(100,M100.con)]
theorem cl_ok:allCon Try.prog cl:=⟨M71.con_ok,M100.con_ok,trivial⟩
def E1:Env:=⟨ty,cfOf cl,fun _=>none,none⟩
structure p0X where
 l:List (Int)
 k:Int
 i:Int
 n:Int
 t:Int
 ph:List (Int)
 c:Int
def p0:Pt p0X where
 own:=[]
 t:=⟨[(1,.c (.ptr 0 0)),(17,.c (.arr (.int .u64))),(18,.c (.it .i64)),(19,.c (.it .i64))],[.st [.it .i64,.it .u64,.arr (.int .u64),.it .i64] 1 0]⟩
 to:=fun v=>⟨v.1.2.1,v.1.2.2.1,v.1.2.2.2.1,v.2.1.1,v.2.1.2.1,v.2.1.2.2.1,v.2.1.2.2.2.1⟩
 fr:=fun x=>(((),(x.l,(x.k,(x.i,())))),((x.n,(x.t,(x.ph,(x.c,())))),()))
structure q0X where
 n:Int
 t:Int
 ph:List (Int)
 c:Int
def q0:Pt q0X where
 own:=[]
 t:=⟨[(1,.c (.ptr 0 0))],[.st [.it .i64,.it .u64,.arr (.int .u64),.it .i64] 1 0]⟩
 to:=fun v=>⟨v.2.1.1,v.2.1.2.1,v.2.1.2.2.1,v.2.1.2.2.2.1⟩
 fr:=fun x=>(((),()),((x.n,(x.t,(x.ph,(x.c,())))),()))
structure z0X where
 e:Int
def z0:Pt z0X where
 own:=[]
 t:=⟨[(2,.c (.it .i64))],[]⟩
 to:=fun v=>⟨v.1.1⟩
 fr:=fun x=>((x.e,()),())
def s0(x:p0X):Option (p0X⊕(q0X⊕z0X)):=bif decide (x.i<x.k) then bif inR x.i x.l.length then bindO (M100.m ⟨x.l[x.i.toNat]?.getD 0,x.n⟩) fun y=>bif y then some (Sum.inr (Sum.inr ⟨1⟩)) else some (Sum.inl ⟨x.l,x.k,IntKind.i64.wrap (x.i+1),x.n,x.t,x.ph,x.c⟩) else none else some (Sum.inr (Sum.inl ⟨x.n,x.t,x.ph,x.c⟩))
theorem s0_eq(x:p0X):exec E1 47 (C72.bodyAt 0) 1 (p0.R x) (p0.H x) (roundK2 0 p0 (.exit 0) q0 .ret z0)=s0 x:=by kernel_rfl
def l0:LoopS:=mkLoop2 0 p0 (.exit 0) q0 .ret z0 s0
theorem tl0:topL (C72.bodyAt 0) 1=[]:=by kernel_rfl
theorem l0_ok  :LoopOkS Try.prog 47 none 0 (C72.bodyAt 0) l0:=mkLoop2_ok mixed (env_ok ty_ok cl_ok _) (by trivial) (by trivial) (fun _=>rfl) (fun _=>rfl) (fun _=>rfl) (tl0▸AllL.nil) s0_eq
def E0:Env:=⟨ty,cfOf cl,lpOf [(0,l0)],none⟩
def m(x:gX):Option fY:=bindO (M71.m ⟨x.n,x.t⟩) fun y=>bif y !=0 then some y else bif decide ((↑x.ph.length:Int)>64) then some 3 else bindO (iter s0 ⟨x.ph,(↑x.ph.length:Int),0,x.n,x.t,x.ph,x.c⟩) fun s=>sumC s (fun y=>bif decide (y.c<0) then some 1 else bif nz (↑y.ph.length:Int)||!decide ((↑y.ph.length:Int)>0) then bif bif decide ((↑y.ph.length:Int)>0) then decide (y.c>IntKind.i64.wrap (Int.tdiv 4096 (↑y.ph.length:Int))) else false then some 3 else some 0 else none) fun z=>some z.e
theorem m_eq(x:gX):exec E0 47 C72 0 (initS 0 (g.A x)) (g.H x) (finish 0 ty [.tmp 2] f)=m x:=by kernel_rfl
theorem tl:topL C72 0=[(0,C72.bodyAt 0)]:=by kernel_rfl
theorem known:Known Try.prog 72 g f m:=
 mk_known mixed (env_ok ty_ok cl_ok _) s72 rfl rfl tl (AllL.cons rfl l0_ok AllL.nil) (fun _ _=>⟨rfl,rfl⟩) (fun _ _=>⟨rfl,rfl⟩) m_eq
def con:Con:=conT g f m default
theorem con_ok:ConOk Try.prog 72 con:=conT_ok known (fun _=>rfl) rfl
end M72
end Go.Proofs.Ytddaobhpffpmoaa
namespace Go.Proofs.Ytddaobhpffpmoaa
open Go.Abs
set_option maxRecDepth 100000
namespace M64
structure gX where
 a:List (List (Int))
 b:List (List (Int))
def g:Sg gX where
 vs:=[.c (.arr (.sl (.int .u8))),.c (.arr (.sl (.int .u8)))]
 h:=[]
 to:=fun a b=>⟨a.1,a.2.1⟩
 fa:=fun x=>(x.a,(x.b,()))
 fh:=fun x=>()
abbrev fY:=Bool
def f:Ft fY where
 ord:=none
 sh:=.c (.bo)
 h:=[]
 to:=fun a b=>(a)
 fv:=fun y=>y
 fh:=fun y=>()
def cl:List (FuncId×Con):=[]
theorem cl_ok:allCon Try.prog cl:=trivial
def E2:Env:=⟨ty,cfOf cl,fun _=>none,none⟩
structure p1X where
 a:List (List (Int))
 b:List (List (Int))
 i:Int
 k:Int
def p1:Pt p1X where
 own:=[]
 t:=⟨[(0,.c (.arr (.sl (.int .u8)))),(1,.c (.arr (.sl (.int .u8)))),(5,.c (.it .i64)),(6,.c (.it .i64))],[]⟩
 to:=fun v=>⟨v.1.1,v.1.2.1,v.1.2.2.1,v.1.2.2.2.1⟩
 fr:=fun x=>((x.a,(x.b,(x.i,(x.k,())))),())
structure q1X where
 a:List (List (Int))
 b:List (List (Int))
 i:Int
def q1:Pt q1X where
 own:=[]
 t:=⟨[(0,.c (.arr (.sl (.int .u8)))),(1,.c (.arr (.sl (.int .u8)))),(5,.c (.it .i64))],[]⟩
 to:=fun v=>⟨v.1.1,v.1.2.1,v.1.2.2.1⟩
 fr:=fun x=>((x.a,(x.b,(x.i,()))),())
structure z1X where
 r:Bool
def z1:Pt z1X where
 own:=[]
 t:=⟨[(4,.c (.bo))],[]⟩
 to:=fun v=>⟨v.1.1⟩
 fr:=fun x=>((x.r,()),())
def s1(x:p1X):Option (p1X⊕(q1X⊕z1X)):=bif inR x.i x.b.length then bif decide (x.k<(↑(List.length (x.b[x.i.toNat]?.getD [])):Int)) then bif inR x.i x.b.length then bif inR x.k (List.length (x.b[x.i.toNat]?.getD [])) then bif inR x.i x.b.length||!(x.b[x.i.toNat]?.getD [])[x.k.toNat]?.getD 0 !=2 then bif inR x.k (List.length (x.b[x.i.toNat]?.getD []))||!(x.b[x.i.toNat]?.getD [])[x.k.toNat]?.getD 0 !=2 then bif inR x.i x.a.length||!(x.b[x.i.toNat]?.getD [])[x.k.toNat]?.getD 0 !=2 then bif inR x.k (List.length (x.a[x.i.toNat]?.getD []))||!(x.b[x.i.toNat]?.getD [])[x.k.toNat]?.getD 0 !=2 then bif bif (x.b[x.i.toNat]?.getD [])[x.k.toNat]?.getD 0 !=2 then (x.b[x.i.toNat]?.getD [])[x.k.toNat]?.getD 0 !=(x.a[x.i.toNat]?.getD [])[x.k.toNat]?.getD 0 else false then some (Sum.inr (Sum.inr ⟨false⟩)) else some (Sum.inl ⟨x.a,x.b,x.i,IntKind.i64.wrap (x.k+1)⟩) else none else none else none else none else none else none else some (Sum.inr (Sum.inl ⟨x.a,x.b,x.i⟩)) else none
theorem s1_eq(x:p1X):exec E2 63 (C64.bodyAt 1) 2 (p1.R x) (p1.H x) (roundK2 0 p1 (.exit 2) q1 .ret z1)=s1 x:=by kernel_rfl
def l1:LoopS:=mkLoop2 0 p1 (.exit 2) q1 .ret z1 s1
theorem tl1:topL (C64.bodyAt 1) 2=[]:=by kernel_rfl
theorem l1_ok  :LoopOkS Try.prog 63 none 0 (C64.bodyAt 1) l1:=mkLoop2_ok mixed (env_ok ty_ok cl_ok _) (by trivial) (by trivial) (fun _=>rfl) (fun _=>rfl) (fun _=>rfl) (tl1▸AllL.nil) s1_eq
def E1:Env:=⟨ty,cfOf cl,lpOf [(1,l1)],none⟩
structure p0X where
 a:List (List (Int))
 b:List (List (Int))
 i:Int
def p0:Pt p0X where
 own:=[]
 t:=⟨[(0,.c (.arr (.sl (.int .u8)))),(1,.c (.arr (.sl (.int .u8)))),(5,.c (.it .i64))],[]⟩
 to:=fun v=>⟨v.1.1,v.1.2.1,v.1.2.2.1⟩
 fr:=fun x=>((x.a,(x.b,(x.i,()))),())
abbrev q0X:=Unit
def q0:Pt q0X where
 own:=[]
 t:=⟨[],[]⟩
 to:=fun v=>()
 fr:=fun x=>((),())
structure z0X where
 r:Bool
def z0:Pt z0X where
 own:=[]
 t:=⟨[(4,.c (.bo))],[]⟩
 to:=fun v=>⟨v.1.1⟩
 fr:=fun x=>((x.r,()),())
def s0(x:p0X):Option (p0X⊕(q0X⊕z0X)):=bif decide (x.i<(↑x.b.length:Int)) then bif inR x.i x.a.length then bif inR x.i x.b.length then bif (↑(List.length (x.a[x.i.toNat]?.getD [])):Int) !=(↑(List.length (x.b[x.i.toNat]?.getD [])):Int) then some (Sum.inr (Sum.inr ⟨false⟩)) else bindO (iter s1 ⟨x.a,x.b,x.i,0⟩) fun s=>sumC s (fun y=>some (Sum.inl ⟨y.a,y.b,IntKind.i64.wrap (y.i+1)⟩)) fun z=>some (Sum.inr (Sum.inr ⟨z.r⟩)) else none else none else some (Sum.inr (Sum.inl PUnit.unit))
theorem s0_eq(x:p0X):exec E1 63 (C64.bodyAt 0) 1 (p0.R x) (p0.H x) (roundK2 0 p0 (.exit 0) q0 .ret z0)=s0 x:=by kernel_rfl
def l0:LoopS:=mkLoop2 0 p0 (.exit 0) q0 .ret z0 s0
theorem tl0:topL (C64.bodyAt 0) 1=[(1,C64.bodyAt 1)]:=by kernel_rfl
theorem l0_ok  :LoopOkS Try.prog 63 none 0 (C64.bodyAt 0) l0:=mkLoop2_ok mixed (env_ok ty_ok cl_ok _) (by trivial) (by trivial) (fun _=>rfl) (fun _=>rfl) (fun _=>rfl) (tl0▸(AllL.cons rfl l1_ok AllL.nil)) s0_eq
def E0:Env:=⟨ty,cfOf cl,lpOf [(0,l0),(1,l1)],none⟩
def m(x:gX):Option fY:=bif (↑x.a.length:Int) !=(↑x.b.length:Int) then some false else bindO (iter s0 ⟨x.a,x.b,0⟩) fun s=>sumC s (fun y=>some true) fun z=>some z.r
theorem m_eq(x:gX):exec E0 63 C64 0 (initS 0 (g.A x)) (g.H x) (finish 0 ty [.tmp 4] f)=m x:=by kernel_rfl
theorem tl:topL C64 0=[(0,C64.bodyAt 0)]:=by kernel_rfl
theorem known:Known Try.prog 64 g f m:=
 mk_known mixed (env_ok ty_ok cl_ok _) s64 rfl rfl tl (AllL.cons rfl l0_ok AllL.nil) (fun _ _=>⟨rfl,rfl⟩) (fun _ _=>⟨rfl,rfl⟩) m_eq
def con:Con:=conT g f m default
theorem con_ok:ConOk Try.prog 64 con:=conT_ok known (fun _=>rfl) rfl
end M64
namespace M96
structure gX where
 n:Int
 t:Int
 ph:List (Int)
 c:Int
 l:List (List (Int))
def g:Sg gX where
 vs:=[.agg [.it .i64,.it .u64,.arr (.int .u64),.it .i64],.c (.arr (.sl (.int .u8)))]
 h:=[]
 to:=fun a b=>⟨a.1.1,a.1.2.1,a.1.2.2.1,a.1.2.2.2.1,a.2.1⟩
 fa:=fun x=>((x.n,(x.t,(x.ph,(x.c,())))),(x.l,()))
 fh:=fun x=>()
abbrev fY:=Int
def f:Ft fY where
 ord:=none
 sh:=.c (.it .i64)
 h:=[]
 to:=fun a b=>(a)
 fv:=fun y=>y
 fh:=fun y=>()
def cl:List (FuncId×Con):=[]
theorem cl_ok:allCon Try.prog cl:=trivial
def E3:Env:=⟨ty,cfOf cl,fun _=>none,none⟩
structure p2X where
 l:List (List (Int))
 n:Int
 i:Int
 r:List (Int)
 n2:Int
 i2:Int
def p2:Pt p2X where
 own:=[]
 t:=⟨[(29,.c (.arr (.sl (.int .u8)))),(30,.c (.it .i64)),(31,.c (.it .i64)),(35,.c (.arr (.int .u8))),(36,.c (.it .i64)),(37,.c (.it .i64))],[]⟩
 to:=fun v=>⟨v.1.1,v.1.2.1,v.1.2.2.1,v.1.2.2.2.1,v.1.2.2.2.2.1,v.1.2.2.2.2.2.1⟩
 fr:=fun x=>((x.l,(x.n,(x.i,(x.r,(x.n2,(x.i2,())))))),())
structure q2X where
 l:List (List (Int))
 n:Int
 i:Int
def q2:Pt q2X where
 own:=[]
 t:=⟨[(29,.c (.arr (.sl (.int .u8)))),(30,.c (.it .i64)),(31,.c (.it .i64))],[]⟩
 to:=fun v=>⟨v.1.1,v.1.2.1,v.1.2.2.1⟩
 fr:=fun x=>((x.l,(x.n,(x.i,()))),())
structure z2X where
 e:Int
def z2:Pt z2X where
 own:=[]
 t:=⟨[(4,.c (.it .i64))],[]⟩
 to:=fun v=>⟨v.1.1⟩
 fr:=fun x=>((x.e,()),())
def s2(x:p2X):Option (p2X⊕(q2X⊕z2X)):=bif decide (x.i2<x.n2) then bif inR x.i2 x.r.length then bif decide (x.r[x.i2.toNat]?.getD 0>2) then some (Sum.inr (Sum.inr ⟨1⟩)) else some (Sum.inl ⟨x.l,x.n,x.i,x.r,x.n2,IntKind.i64.wrap (x.i2+1)⟩) else none else some (Sum.inr (Sum.inl ⟨x.l,x.n,x.i⟩))
theorem s2_eq(x:p2X):exec E3 45 (C96.bodyAt 2) 3 (p2.R x) (p2.H x) (roundK2 0 p2 (.exit 4) q2 .ret z2)=s2 x:=by kernel_rfl
def l2:LoopS:=mkLoop2 0 p2 (.exit 4) q2 .ret z2 s2
theorem tl2:topL (C96.bodyAt 2) 3=[]:=by kernel_rfl
theorem l2_ok  :LoopOkS Try.prog 45 none 0 (C96.bodyAt 2) l2:=mkLoop2_ok mixed (env_ok ty_ok cl_ok _) (by trivial) (by trivial) (fun _=>rfl) (fun _=>rfl) (fun _=>rfl) (tl2▸AllL.nil) s2_eq
def E2:Env:=⟨ty,cfOf cl,lpOf [(2,l2)],none⟩
structure p1X where
 l:List (List (Int))
 n:Int
 i:Int
def p1:Pt p1X where
 own:=[]
 t:=⟨[(29,.c (.arr (.sl (.int .u8)))),(30,.c (.it .i64)),(31,.c (.it .i64))],[]⟩
 to:=fun v=>⟨v.1.1,v.1.2.1,v.1.2.2.1⟩
 fr:=fun x=>((x.l,(x.n,(x.i,()))),())
abbrev q1X:=Unit
def q1:Pt q1X where
 own:=[]
 t:=⟨[],[]⟩
 to:=fun v=>()
 fr:=fun x=>((),())
structure z1X where
 e:Int
def z1:Pt z1X where
 own:=[]
 t:=⟨[(4,.c (.it .i64))],[]⟩
 to:=fun v=>⟨v.1.1⟩
 fr:=fun x=>((x.e,()),())
def s1(x:p1X):Option (p1X⊕(q1X⊕z1X)):=bif decide (x.i<x.n) then bif inR x.i x.l.length then bindO (iter s2 ⟨x.l,x.n,x.i,x.l[x.i.toNat]?.getD [],(↑(List.length (x.l[x.i.toNat]?.getD [])):Int),0⟩) fun s=>sumC s (fun y=>some (Sum.inl ⟨y.l,y.n,IntKind.i64.wrap (y.i+1)⟩)) fun z=>some (Sum.inr (Sum.inr ⟨z.e⟩)) else none else some (Sum.inr (Sum.inl PUnit.unit))
theorem s1_eq(x:p1X):exec E2 45 (C96.bodyAt 1) 2 (p1.R x) (p1.H x) (roundK2 0 p1 (.exit 2) q1 .ret z1)=s1 x:=by kernel_rfl
def l1:LoopS:=mkLoop2 0 p1 (.exit 2) q1 .ret z1 s1
theorem tl1:topL (C96.bodyAt 1) 2=[(2,C96.bodyAt 2)]:=by kernel_rfl
theorem l1_ok  :LoopOkS Try.prog 45 none 0 (C96.bodyAt 1) l1:=mkLoop2_ok mixed (env_ok ty_ok cl_ok _) (by trivial) (by trivial) (fun _=>rfl) (fun _=>rfl) (fun _=>rfl) (tl1▸(AllL.cons rfl l2_ok AllL.nil)) s1_eq
def E1:Env:=⟨ty,cfOf cl,lpOf [(1,l1),(2,l2)],none⟩
structure p0X where
 l:List (List (Int))
 l2:List (List (Int))
 n:Int
 i:Int
 n2:Int
 t:Int
 ph:List (Int)
 c:Int
def p0:Pt p0X where
 own:=[]
 t:=⟨[(1,.c (.arr (.sl (.int .u8)))),(2,.c (.ptr 0 0)),(17,.c (.arr (.sl (.int .u8)))),(18,.c (.it .i64)),(19,.c (.it .i64))],[.st [.it .i64,.it .u64,.arr (.int .u64),.it .i64] 1 0]⟩
 to:=fun v=>⟨v.1.1,v.1.2.2.1,v.1.2.2.2.1,v.1.2.2.2.2.1,v.2.1.1,v.2.1.2.1,v.2.1.2.2.1,v.2.1.2.2.2.1⟩
 fr:=fun x=>((x.l,((),(x.l2,(x.n,(x.i,()))))),((x.n2,(x.t,(x.ph,(x.c,())))),()))
structure q0X where
 l:List (List (Int))
def q0:Pt q0X where
 own:=[]
 t:=⟨[(1,.c (.arr (.sl (.int .u8))))],[]⟩
 to:=fun v=>⟨v.1.1⟩
 fr:=fun x=>((x.l,()),())
structure z0X where
 e:Int
def z0:Pt z0X where
 own:=[]
 t:=⟨[(4,.c (.it .i64))],[]⟩
 to:=fun v=>⟨v.1.1⟩
 fr:=fun x=>((x.e,()),())
def s0(x:p0X):Option (p0X⊕(q0X⊕z0X)):=bif decide (x.i<x.n) then bif inR x.i x.l2.length then bif (↑(List.length (x.l2[x.i.toNat]?.getD [])):Int) !=x.c then some (Sum.inr (Sum.inr ⟨8⟩)) else some (Sum.inl ⟨x.l,x.l2,x.n,IntKind.i64.wrap (x.i+1),x.n2,x.t,x.ph,x.c⟩) else none else some (Sum.inr (Sum.inl ⟨x.l⟩))
theorem s0_eq(x:p0X):exec E1 45 (C96.bodyAt 0) 1 (p0.R x) (p0.H x) (roundK2 0 p0 (.exit 0) q0 .ret z0)=s0 x:=by kernel_rfl
def l0:LoopS:=mkLoop2 0 p0 (.exit 0) q0 .ret z0 s0
theorem tl0:topL (C96.bodyAt 0) 1=[]:=by kernel_rfl
theorem l0_ok  :LoopOkS Try.prog 45 none 0 (C96.bodyAt 0) l0:=mkLoop2_ok mixed (env_ok ty_ok cl_ok _) (by trivial) (by trivial) (fun _=>rfl) (fun _=>rfl) (fun _=>rfl) (tl0▸AllL.nil) s0_eq
def E0:Env:=⟨ty,cfOf cl,lpOf [(0,l0),(1,l1),(2,l2)],none⟩
def m(x:gX):Option fY:=bif (↑x.l.length:Int) !=(↑x.ph.length:Int) then some 8 else bindO (iter s0 ⟨x.l,x.l,(↑x.l.length:Int),0,x.n,x.t,x.ph,x.c⟩) fun s=>sumC s (fun y=>bindO (iter s1 ⟨y.l,(↑y.l.length:Int),0⟩) fun s=>sumC s (fun y=>some 0) fun z=>some z.e) fun z=>some z.e
theorem m_eq(x:gX):exec E0 45 C96 0 (initS 0 (g.A x)) (g.H x) (finish 0 ty [.tmp 4] f)=m x:=by kernel_rfl
theorem tl:topL C96 0=[(0,C96.bodyAt 0),(1,C96.bodyAt 1)]:=by kernel_rfl
theorem known:Known Try.prog 96 g f m:=
 mk_known mixed (env_ok ty_ok cl_ok _) s96 rfl rfl tl (AllL.cons rfl l0_ok (AllL.cons rfl l1_ok AllL.nil)) (fun _ _=>⟨rfl,rfl⟩) (fun _ _=>⟨rfl,rfl⟩) m_eq
def con:Con:=conT g f m default
theorem con_ok:ConOk Try.prog 96 con:=conT_ok known (fun _=>rfl) rfl
end M96
end Go.Proofs.Ytddaobhpffpmoaa
namespace Go.Proofs.Ytddaobhpffpmoaa
open Go.Abs
set_option maxRecDepth 100000
namespace M98
structure gX where
 s:Int
 n:Int
def g:Sg gX where
 vs:=[.c (.it .u64),.c (.it .i64)]
 h:=[]
 to:=fun a b=>⟨a.1,a.2.1⟩
 fa:=fun x=>(x.s,(x.n,()))
 fh:=fun x=>()
abbrev fY:=Int×List (Int)
def f:Ft fY where
 ord:=none
 sh:=.agg [.it .i64,.arr (.int .u64)]
 h:=[]
 to:=fun a b=>(a.1,a.2.1)
 fv:=fun y=>(y.1,(y.2,()))
 fh:=fun y=>()
def cl:List (FuncId×Con):=[(51,M51.con)]
theorem cl_ok:allCon Try.prog cl:=⟨M51.con_ok,trivial⟩
def E0:Env:=⟨ty,cfOf cl,fun _=>none,none⟩
def m(x:gX):Option fY:=bindO (M51.m ⟨x.n⟩) fun y=>bif inR 0 y.2.2.1 then bif decide (y.2.1+0<y.2.2.2.2.2.length) then bif leB (y.2.1+y.2.2.1) (y.2.2.2.2.2.set (y.2.1+0) x.s).length&&true&&true&&true then some (y.1,List.take y.2.2.1 (List.drop y.2.1 (y.2.2.2.2.2.set (y.2.1+0) x.s))) else none else none else none
theorem m_eq(x:gX):exec E0 17 C98 0 (initS 0 (g.A x)) (g.H x) (finish 0 ty [.cell 4 34] f)=m x:=by kernel_rfl
theorem tl:topL C98 0=[]:=by kernel_rfl
theorem known:Known Try.prog 98 g f m:=
 mk_known mixed (env_ok ty_ok cl_ok _) s98 rfl rfl tl AllL.nil (fun _ _=>⟨rfl,rfl⟩) (fun _ _=>⟨rfl,rfl⟩) m_eq
def con:Con:=conT g f m default
theorem con_ok:ConOk Try.prog 98 con:=conT_ok known (fun _=>rfl) rfl
end M98
namespace M99
structure gX where
 n:Int
 t:Int
def g:Sg gX where
 vs:=[.agg [.it .i64,.it .u64]]
 h:=[]
 to:=fun a b=>⟨a.1.1,a.1.2.1⟩
 fa:=fun x=>((x.n,(x.t,())),())
 fh:=fun x=>()
abbrev fY:=Int×(List ((Int)×List (Int)))
def f:Ft fY where
 ord:=none
 sh:=.agg [.it .i64,.arr (.pair (.int .i64) (.sl (.int .u64)))]
 h:=[]
 to:=fun a b=>(a.1,a.2.1)
 fv:=fun y=>(y.1,(y.2,()))
 fh:=fun y=>()
def cl:List (FuncId×Con):=[(93,M93.con),(98,M98.con),(40,M40.con)]
theorem cl_ok:allCon Try.prog cl:=⟨M93.con_ok,M98.con_ok,M40.con_ok,trivial⟩
def E1:Env:=⟨ty,cfOf cl,fun _=>none,none⟩
structure p0X where
 n:Int
 i:Int
 n2:Int
 t:Int
 oc:Int
 or__lo:Nat
 or__len:Nat
 out:List ((Int)×List (Int))
def p0:Pt p0X where
 own:=[.cell 2 1 (.pair (.int .i64) (.sl (.int .u64)))]
 t:=⟨[(1,.c (.ptr 0 0)),(2,.c (.ptr 1 0)),(3,.c (.ptr 2 0)),(12,.c (.it .i64)),(13,.c (.it .i64))],[.st [.it .i64,.it .u64] 1 0,.st [.junk,.junk] 1 0,.st [.it .i64,.sl 3 0 2] 1 0,.arr (.pair (.int .i64) (.sl (.int .u64))) 0]⟩
 to:=fun v=>⟨v.1.2.2.2.1,v.1.2.2.2.2.1,v.2.1.1,v.2.1.2.1,v.2.2.2.1.1,v.2.2.2.1.2.1.1,v.2.2.2.1.2.1.2,v.2.2.2.2.1⟩
 fr:=fun x=>(((),((),((),(x.n,(x.i,()))))),((x.n2,(x.t,())),(((),((),())),((x.oc,((x.or__lo,x.or__len),())),(x.out,())))))
structure q0X where
 n:Int
 t:Int
 oc:Int
 or_:List ((Int)×List (Int))
def q0:Pt q0X where
 own:=[]
 t:=⟨[(2,.c (.ptr 1 0)),(3,.c (.ptr 2 0))],[.st [.it .i64,.it .u64] 1 0,.st [.junk,.junk] 1 0,.st [.it .i64,.arr (.pair (.int .i64) (.sl (.int .u64)))] 1 0]⟩
 to:=fun v=>⟨v.2.1.1,v.2.1.2.1,v.2.2.2.1.1,v.2.2.2.1.2.1⟩
 fr:=fun x=>(((),((),())),((x.n,(x.t,())),(((),((),())),((x.oc,(x.or_,())),()))))
def s0(x:p0X):Option (p0X⊕q0X):=bif decide (x.i<x.n) then bif decide (0≤x.i) then bindO (M93.m ⟨x.n2,x.t,IntKind.u64.wrap (1*2^min x.i.toNat 64)⟩) fun y=>bindO (M98.m ⟨y.2.2,x.n2⟩) fun y=>bif eqN x.or__lo 0&&eqN x.out.length x.or__len&&roomB (x.or__len+1) 32 then some (Sum.inl ⟨x.n,IntKind.i64.wrap (x.i+1),x.n2,x.t,x.oc,0,x.or__len+1,x.out++[(y.1,y.2)]⟩) else none else none else bif leB (x.or__lo+x.or__len) x.out.length&&true&&true then some (Sum.inr ⟨x.n2,x.t,x.oc,List.take x.or__len (List.drop x.or__lo x.out)⟩) else none
theorem s0_eq(x:p0X):exec E1 38 (C99.bodyAt 0) 1 (p0.R x) (p0.H x) (roundK 0 p0 (.exit 0) q0)=s0 x:=by kernel_rfl
def l0:LoopS:=mkLoop 0 p0 (.exit 0) q0 s0
theorem tl0:topL (C99.bodyAt 0) 1=[]:=by kernel_rfl
theorem l0_ok  :LoopOkS Try.prog 38 none 0 (C99.bodyAt 0) l0:=mkLoop_ok mixed (env_ok ty_ok cl_ok _) (by trivial) (fun _=>rfl) (fun _=>rfl) (tl0▸AllL.nil) s0_eq
def E0:Env:=⟨ty,cfOf cl,lpOf [(0,l0)],none⟩
def m(x:gX):Option fY:=bindO (iter s0 ⟨x.n,0,x.n,x.t,x.n,0,0,[]⟩) fun y=>bindO (M40.m ⟨y.oc,y.or_⟩) fun y=>some (y.1,y.2.1)
theorem m_eq(x:gX):exec E0 38 C99 0 (initS 0 (g.A x)) (g.H x) (finish 0 ty [.cell 2 40] f)=m x:=by kernel_rfl
theorem tl:topL C99 0=[(0,C99.bodyAt 0)]:=by kernel_rfl
theorem known:Known Try.prog 99 g f m:=
 mk_known mixed (env_ok ty_ok cl_ok _) s99 rfl rfl tl (AllL.cons rfl l0_ok AllL.nil) (fun _ _=>⟨rfl,rfl⟩) (fun _ _=>⟨rfl,rfl⟩) m_eq
def con:Con:=conT g f m default
theorem con_ok:ConOk Try.prog 99 con:=conT_ok known (fun _=>rfl) rfl
end M99
namespace M69
structure gX where
 n:Int
 t:Int
 s:Int
 k:Int
def g:Sg gX where
 vs:=[.agg [.it .i64,.it .u64],.c (.it .u64),.c (.it .u64)]
 h:=[]
 to:=fun a b=>⟨a.1.1,a.1.2.1,a.2.1,a.2.2.1⟩
 fa:=fun x=>((x.n,(x.t,())),(x.s,(x.k,())))
 fh:=fun x=>()
abbrev fY:=Int×Int
def f:Ft fY where
 ord:=none
 sh:=.tup [.inl (.it .u64),.inl (.it .i64)]
 h:=[]
 to:=fun a b=>(a.1,a.2.1)
 fv:=fun y=>(y.1,(y.2,()))
 fh:=fun y=>()
def cl:List (FuncId×Con):=[(91,M91.con),(98,M98.con),(99,M99.con),(29,M29.con),(39,M39.con)]
theorem cl_ok:allCon Try.prog cl:=⟨M91.con_ok,M98.con_ok,M99.con_ok,M29.con_ok,M39.con_ok,trivial⟩
def E1:Env:=⟨ty,cfOf cl,fun _=>none,none⟩
structure p0X where
 k:Int
 vn:Int
 vw:List (Int)
 mc:Int
 mr:List ((Int)×List (Int))
def p0:Pt p0X where
 own:=[]
 t:=⟨[(2,.c (.it .u64)),(10,.c (.ptr 2 0)),(11,.c (.ptr 3 0))],[.st [.junk,.junk] 1 0,.st [.junk,.junk,.junk] 1 0,.st [.it .i64,.arr (.int .u64)] 1 0,.st [.it .i64,.arr (.pair (.int .i64) (.sl (.int .u64)))] 1 0]⟩
 to:=fun v=>⟨v.1.1,v.2.2.2.1.1,v.2.2.2.1.2.1,v.2.2.2.2.1.1,v.2.2.2.2.1.2.1⟩
 fr:=fun x=>((x.k,((),((),()))),(((),((),())),(((),((),((),()))),((x.vn,(x.vw,())),((x.mc,(x.mr,())),())))))
structure q0X where
 vn:Int
 vw:List (Int)
 mc:Int
 mr:List ((Int)×List (Int))
def q0:Pt q0X where
 own:=[]
 t:=⟨[(10,.c (.ptr 2 0)),(11,.c (.ptr 3 0))],[.st [.junk,.junk] 1 0,.st [.junk,.junk,.junk] 1 0,.st [.it .i64,.arr (.int .u64)] 1 0,.st [.it .i64,.arr (.pair (.int .i64) (.sl (.int .u64)))] 1 0]⟩
 to:=fun v=>⟨v.2.2.2.1.1,v.2.2.2.1.2.1,v.2.2.2.2.1.1,v.2.2.2.2.1.2.1⟩
 fr:=fun x=>(((),((),())),(((),((),())),(((),((),((),()))),((x.vn,(x.vw,())),((x.mc,(x.mr,())),())))))
def s0(x:p0X):Option (p0X⊕q0X):=bif decide (x.k>0) then bif x.k.tmod 2==1 then bindO (M29.m ⟨x.mc,x.mr,x.vn,x.vw⟩) fun y=>bindO (M39.m ⟨x.mc,x.mr,x.mc,x.mr⟩) fun y_1=>some (Sum.inl ⟨x.k.fdiv (2^1),y.1,y.2.1,y_1.1,y_1.2.1⟩) else bindO (M39.m ⟨x.mc,x.mr,x.mc,x.mr⟩) fun y=>some (Sum.inl ⟨x.k.fdiv (2^1),x.vn,x.vw,y.1,y.2.1⟩) else some (Sum.inr ⟨x.vn,x.vw,x.mc,x.mr⟩)
theorem s0_eq(x:p0X):exec E1 50 (C69.bodyAt 0) 1 (p0.R x) (p0.H x) (roundK 0 p0 (.exit 0) q0)=s0 x:=by kernel_rfl
def l0:LoopS:=mkLoop 0 p0 (.exit 0) q0 s0
theorem tl0:topL (C69.bodyAt 0) 1=[]:=by kernel_rfl
theorem l0_ok  :LoopOkS Try.prog 50 none 0 (C69.bodyAt 0) l0:=mkLoop_ok mixed (env_ok ty_ok cl_ok _) (by trivial) (fun _=>rfl) (fun _=>rfl) (tl0▸AllL.nil) s0_eq
def E0:Env:=⟨ty,cfOf cl,lpOf [(0,l0)],none⟩
def m(x:gX):Option fY:=bindO (M91.m ⟨x.n,x.t,x.s⟩) fun y=>bif y.2.2.2 !=0 then some (0,y.2.2.2) else bindO (M98.m ⟨x.s,x.n⟩) fun y=>bindO (M99.m ⟨x.n,x.t⟩) fun y_1=>bindO (iter s0 ⟨x.k,y.1,y.2,y_1.1,y_1.2⟩) fun y=>bif inR 0 y.vw.length then some (y.vw[0]?.getD 0,0) else none
theorem m_eq(x:gX):exec E0 50 C69 0 (initS 0 (g.A x)) (g.H x) (finish 0 ty [.tmp 6,.tmp 7] f)=m x:=by kernel_rfl
theorem tl:topL C69 0=[(0,C69.bodyAt 0)]:=by kernel_rfl
theorem known:Known Try.prog 69 g f m:=
 mk_known mixed (env_ok ty_ok cl_ok _) s69 rfl rfl tl (AllL.cons rfl l0_ok AllL.nil) (fun _ _=>⟨rfl,rfl⟩) (fun _ _=>⟨rfl,rfl⟩) m_eq
def con:Con:=conT g f m default
theorem con_ok:ConOk Try.prog 69 con:=conT_ok known (fun _=>rfl) rfl
end M69
end Go.Proofs.Ytddaobhpffpmoaa
