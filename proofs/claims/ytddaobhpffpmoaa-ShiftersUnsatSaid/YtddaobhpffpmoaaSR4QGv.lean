/-
  What the proof stands on.
-/
import Derived.Test.YtddaobhpffpmoaaSR4QGu
import Derived.Test.YtddaobhpffpmoaaSR4QGj
import Derived.Test.YtddaobhpffpmoaaSR4QGs
set_option linter.all false
noncomputable section
namespace Go.Proofs.Ytddaobhpffpmoaa
open Go.Abs
set_option maxRecDepth 100000
end Go.Proofs.Ytddaobhpffpmoaa
namespace Go.Proofs.Ytddaobhpffpmoaa
open Go.Abs
set_option maxRecDepth 100000
end Go.Proofs.Ytddaobhpffpmoaa
namespace Go.Proofs.Ytddaobhpffpmoaa
open Go.Abs
set_option maxRecDepth 100000
namespace M13
structure gX where
 n:Int
 t:Int
 ph:List (Int)
 c:Int
 v:List (Int)
def g:Sg gX where
 vs:=[.agg [.it .u8,.it .u64,.arr (.int .u64),.it .u8],.c (.arr (.int .u8))]
 h:=[]
 to:=fun a b=>⟨a.1.1,a.1.2.1,a.1.2.2.1,a.1.2.2.2.1,a.2.1⟩
 fa:=fun x=>((x.n,(x.t,(x.ph,(x.c,())))),(x.v,()))
 fh:=fun x=>()
abbrev fY:=Bool
def f:Ft fY where
 ord:=none
 sh:=.c (.bo)
 h:=[]
 to:=fun a b=>(a)
 fv:=fun y=>y
 fh:=fun y=>()
def cl:List (FuncId×Con):=[(59,M59.con),(60,M60.con),(61,M61.con),(63,M63.con),(64,M64.con)]
theorem cl_ok:allCon Try.prog cl:=⟨M59.con_ok,M60.con_ok,M61.con_ok,M63.con_ok,M64.con_ok,trivial⟩
def E3:Env:=⟨ty,cfOf cl,fun _=>none,none⟩
structure p2X where
 want:List (List (Int))
 some_:Bool
 s:Int
 dn:Int
 dt:Int
 dph:List (Int)
 dc:Int
def p2:Pt p2X where
 own:=[]
 t:=⟨[(5,.c (.ptr 1 0)),(6,.c (.arr (.sl (.int .u8)))),(12,.c (.bo)),(13,.c (.it .u64))],[.st [.junk,.junk,.junk,.junk] 1 0,.st [.it .i64,.it .u64,.arr (.int .u64),.it .i64] 1 0]⟩
 to:=fun v=>⟨v.1.2.1,v.1.2.2.1,v.1.2.2.2.1,v.2.2.1.1,v.2.2.1.2.1,v.2.2.1.2.2.1,v.2.2.1.2.2.2.1⟩
 fr:=fun x=>(((),(x.want,(x.some_,(x.s,())))),(((),((),((),((),())))),((x.dn,(x.dt,(x.dph,(x.dc,())))),())))
structure q2X where
 want:List (List (Int))
 some_:Bool
 dn:Int
 dt:Int
 dph:List (Int)
 dc:Int
def q2:Pt q2X where
 own:=[]
 t:=⟨[(5,.c (.ptr 1 0)),(6,.c (.arr (.sl (.int .u8)))),(12,.c (.bo))],[.st [.junk,.junk,.junk,.junk] 1 0,.st [.it .i64,.it .u64,.arr (.int .u64),.it .i64] 1 0]⟩
 to:=fun v=>⟨v.1.2.1,v.1.2.2.1,v.2.2.1.1,v.2.2.1.2.1,v.2.2.1.2.2.1,v.2.2.1.2.2.2.1⟩
 fr:=fun x=>(((),(x.want,(x.some_,()))),(((),((),((),((),())))),((x.dn,(x.dt,(x.dph,(x.dc,())))),())))
structure z2X where
 r:Bool
def z2:Pt z2X where
 own:=[]
 t:=⟨[(4,.c (.bo))],[]⟩
 to:=fun v=>⟨v.1.1⟩
 fr:=fun x=>((x.r,()),())
def s2(x:p2X):Option (p2X⊕(q2X⊕z2X)):=bif decide (0≤x.dn) then bif decide (x.s<IntKind.u64.wrap (1*2^min x.dn.toNat 64)) then bindO (M61.m ⟨x.dn,x.dt,x.dph,x.dc,x.s⟩) fun y=>bif y.2 !=0 then some (Sum.inr (Sum.inr ⟨false⟩)) else bindO (bif !x.some_ then M64.m ⟨y.1,x.want⟩ else some false) fun y=>some (Sum.inl ⟨x.want,bif x.some_ then true else y,IntKind.u64.wrap (x.s+1),x.dn,x.dt,x.dph,x.dc⟩) else some (Sum.inr (Sum.inl ⟨x.want,x.some_,x.dn,x.dt,x.dph,x.dc⟩)) else none
theorem s2_eq(x:p2X):exec E3 130 (C13.bodyAt 2) 3 (p2.R x) (p2.H x) (roundK2 0 p2 (.exit 4) q2 .ret z2)=s2 x:=by kernel_rfl
def l2:LoopS:=mkLoop2 0 p2 (.exit 4) q2 .ret z2 s2
theorem tl2:topL (C13.bodyAt 2) 3=[]:=by kernel_rfl
theorem l2_ok  :LoopOkS Try.prog 130 none 0 (C13.bodyAt 2) l2:=mkLoop2_ok mixed (env_ok ty_ok cl_ok _) (by trivial) (by trivial) (fun _=>rfl) (fun _=>rfl) (fun _=>rfl) (tl2▸AllL.nil) s2_eq
def E2:Env:=⟨ty,cfOf cl,lpOf [(2,l2)],none⟩
structure p1X where
 v:List (Int)
 want_lo:Nat
 want_len:Nat
 k:Int
 j:Int
 l_lo:Nat
 l_len:Nat
 i:Int
 dn:Int
 dt:Int
 dph:List (Int)
 dc:Int
 want:List (List (Int))
 l:List (Int)
def p1:Pt p1X where
 own:=[.reg 9 (.int .u8)]
 t:=⟨[(1,.c (.arr (.int .u8))),(5,.c (.ptr 1 0)),(6,.c (.sl 2 0 1)),(7,.c (.it .i64)),(8,.c (.it .i64)),(9,.c (.sl 3 0 1)),(10,.c (.it .i64))],[.st [.junk,.junk,.junk,.junk] 1 0,.st [.it .i64,.it .u64,.arr (.int .u64),.it .i64] 1 0,.arr (.sl (.int .u8)) 0,.arr (.int .u8) 0]⟩
 to:=fun v=>⟨v.1.1,v.1.2.2.1.1,v.1.2.2.1.2,v.1.2.2.2.1,v.1.2.2.2.2.1,v.1.2.2.2.2.2.1.1,v.1.2.2.2.2.2.1.2,v.1.2.2.2.2.2.2.1,v.2.2.1.1,v.2.2.1.2.1,v.2.2.1.2.2.1,v.2.2.1.2.2.2.1,v.2.2.2.1,v.2.2.2.2.1⟩
 fr:=fun x=>((x.v,((),((x.want_lo,x.want_len),(x.k,(x.j,((x.l_lo,x.l_len),(x.i,()))))))),(((),((),((),((),())))),((x.dn,(x.dt,(x.dph,(x.dc,())))),(x.want,(x.l,())))))
structure q1X where
 v:List (Int)
 want_lo:Nat
 want_len:Nat
 k:Int
 j:Int
 l:List (Int)
 dn:Int
 dt:Int
 dph:List (Int)
 dc:Int
 want:List (List (Int))
def q1:Pt q1X where
 own:=[]
 t:=⟨[(1,.c (.arr (.int .u8))),(5,.c (.ptr 1 0)),(6,.c (.sl 2 0 1)),(7,.c (.it .i64)),(8,.c (.it .i64)),(9,.c (.arr (.int .u8)))],[.st [.junk,.junk,.junk,.junk] 1 0,.st [.it .i64,.it .u64,.arr (.int .u64),.it .i64] 1 0,.arr (.sl (.int .u8)) 0]⟩
 to:=fun v=>⟨v.1.1,v.1.2.2.1.1,v.1.2.2.1.2,v.1.2.2.2.1,v.1.2.2.2.2.1,v.1.2.2.2.2.2.1,v.2.2.1.1,v.2.2.1.2.1,v.2.2.1.2.2.1,v.2.2.1.2.2.2.1,v.2.2.2.1⟩
 fr:=fun x=>((x.v,((),((x.want_lo,x.want_len),(x.k,(x.j,(x.l,())))))),(((),((),((),((),())))),((x.dn,(x.dt,(x.dph,(x.dc,())))),(x.want,()))))
def s1(x:p1X):Option (p1X⊕q1X):=bif decide (x.i<x.dc) then bif bif inR x.k x.v.length&&true then true else bif decide (x.k<(↑x.v.length:Int)) then false else true then bif eqN x.l_lo 0&&eqN x.l.length x.l_len&&roomB (x.l_len+1) 1 then some (Sum.inl ⟨x.v,x.want_lo,x.want_len,IntKind.i64.wrap (x.k+1),x.j,0,x.l_len+1,IntKind.i64.wrap (x.i+1),x.dn,x.dt,x.dph,x.dc,x.want,x.l++[bif decide (x.k<(↑x.v.length:Int)) then if 2<Int.tmod (x.v[x.k.toNat]?.getD 0) 4 then 2 else Int.tmod (x.v[x.k.toNat]?.getD 0) 4 else 2]⟩) else none else none else bif leB (x.l_lo+x.l_len) x.l.length&&true&&true then some (Sum.inr ⟨x.v,x.want_lo,x.want_len,x.k,x.j,List.take x.l_len (List.drop x.l_lo x.l),x.dn,x.dt,x.dph,x.dc,x.want⟩) else none
theorem s1_eq(x:p1X):exec E2 130 (C13.bodyAt 1) 2 (p1.R x) (p1.H x) (roundK 0 p1 (.exit 2) q1)=s1 x:=by kernel_rfl
def l1:LoopS:=mkLoop 0 p1 (.exit 2) q1 s1
theorem tl1:topL (C13.bodyAt 1) 2=[]:=by kernel_rfl
theorem l1_ok  :LoopOkS Try.prog 130 none 0 (C13.bodyAt 1) l1:=mkLoop_ok mixed (env_ok ty_ok cl_ok _) (by trivial) (fun _=>rfl) (fun _=>rfl) (tl1▸AllL.nil) s1_eq
def E1:Env:=⟨ty,cfOf cl,lpOf [(1,l1),(2,l2)],none⟩
structure p0X where
 v:List (Int)
 want_lo:Nat
 want_len:Nat
 k:Int
 j:Int
 dn:Int
 dt:Int
 dph:List (Int)
 dc:Int
 want:List (List (Int))
def p0:Pt p0X where
 own:=[.reg 6 (.sl (.int .u8))]
 t:=⟨[(1,.c (.arr (.int .u8))),(5,.c (.ptr 1 0)),(6,.c (.sl 2 0 1)),(7,.c (.it .i64)),(8,.c (.it .i64))],[.st [.junk,.junk,.junk,.junk] 1 0,.st [.it .i64,.it .u64,.arr (.int .u64),.it .i64] 1 0,.arr (.sl (.int .u8)) 0]⟩
 to:=fun v=>⟨v.1.1,v.1.2.2.1.1,v.1.2.2.1.2,v.1.2.2.2.1,v.1.2.2.2.2.1,v.2.2.1.1,v.2.2.1.2.1,v.2.2.1.2.2.1,v.2.2.1.2.2.2.1,v.2.2.2.1⟩
 fr:=fun x=>((x.v,((),((x.want_lo,x.want_len),(x.k,(x.j,()))))),(((),((),((),((),())))),((x.dn,(x.dt,(x.dph,(x.dc,())))),(x.want,()))))
structure q0X where
 want:List (List (Int))
 dn:Int
 dt:Int
 dph:List (Int)
 dc:Int
def q0:Pt q0X where
 own:=[]
 t:=⟨[(5,.c (.ptr 1 0)),(6,.c (.arr (.sl (.int .u8))))],[.st [.junk,.junk,.junk,.junk] 1 0,.st [.it .i64,.it .u64,.arr (.int .u64),.it .i64] 1 0]⟩
 to:=fun v=>⟨v.1.2.1,v.2.2.1.1,v.2.2.1.2.1,v.2.2.1.2.2.1,v.2.2.1.2.2.2.1⟩
 fr:=fun x=>(((),(x.want,())),(((),((),((),((),())))),((x.dn,(x.dt,(x.dph,(x.dc,())))),())))
def s0(x:p0X):Option (p0X⊕q0X):=bif decide (x.j<(↑x.dph.length:Int)) then bindO (iter s1 ⟨x.v,x.want_lo,x.want_len,x.k,x.j,0,0,0,x.dn,x.dt,x.dph,x.dc,x.want,[]⟩) fun y=>bif eqN y.want_lo 0&&eqN y.want.length y.want_len&&roomB (y.want_len+1) 24 then some (Sum.inl ⟨y.v,0,y.want_len+1,y.k,IntKind.i64.wrap (y.j+1),y.dn,y.dt,y.dph,y.dc,y.want++[y.l]⟩) else none else bif leB (x.want_lo+x.want_len) x.want.length&&true&&true then some (Sum.inr ⟨List.take x.want_len (List.drop x.want_lo x.want),x.dn,x.dt,x.dph,x.dc⟩) else none
theorem s0_eq(x:p0X):exec E1 130 (C13.bodyAt 0) 1 (p0.R x) (p0.H x) (roundK 0 p0 (.exit 0) q0)=s0 x:=by kernel_rfl
def l0:LoopS:=mkLoop 0 p0 (.exit 0) q0 s0
theorem tl0:topL (C13.bodyAt 0) 1=[(1,C13.bodyAt 1)]:=by kernel_rfl
theorem l0_ok  :LoopOkS Try.prog 130 none 0 (C13.bodyAt 0) l0:=mkLoop_ok mixed (env_ok ty_ok cl_ok _) (by trivial) (fun _=>rfl) (fun _=>rfl) (tl0▸(AllL.cons rfl l1_ok AllL.nil)) s0_eq
def E0:Env:=⟨ty,cfOf cl,lpOf [(0,l0),(1,l1),(2,l2)],none⟩
def m(x:gX):Option fY:=bif bif decide ((↑x.ph.length:Int)>4) then true else decide ((↑x.v.length:Int)>60) then bindO (M59.m PUnit.unit) fun y=>some y else bindO (M60.m ⟨x.n.tmod 6,x.t,x.ph,x.c⟩) fun y=>bindO (iter s0 ⟨x.v,0,0,0,0,y.1,y.2.1,y.2.2.1,y.2.2.2,[]⟩) fun y=>bindO (iter s2 ⟨y.want,false,0,y.dn,y.dt,y.dph,y.dc⟩) fun s=>sumC s (fun y=>bindO (M63.m ⟨y.dn,y.dt,y.dph,y.dc,y.want⟩) fun y_1=>bif !y.some_ then bindO (bif bif y_1.2==9 then y_1.1==0 else false then M59.m PUnit.unit else some false) fun y=>some (bif bif y_1.2==9 then y_1.1==0 else false then y else false) else bindO (M61.m ⟨y.dn,y.dt,y.dph,y.dc,y_1.1⟩) fun y_2=>bindO (bif bif y_1.2==0 then y_2.2==0 else false then M64.m ⟨y_2.1,y.want⟩ else some false) fun y=>bindO (bif bif bif y_1.2==0 then y_2.2==0 else false then y else false then M59.m PUnit.unit else some false) fun y_3=>some (bif bif bif y_1.2==0 then y_2.2==0 else false then y else false then y_3 else false)) fun z=>some z.r
theorem m_eq(x:gX):exec E0 130 C13 0 (initS 0 (g.A x)) (g.H x) (finish 0 ty [.tmp 4] f)=m x:=by kernel_rfl
theorem tl:topL C13 0=[(0,C13.bodyAt 0),(2,C13.bodyAt 2)]:=by kernel_rfl
theorem known:Known Try.prog 13 g f m:=
 mk_known mixed (env_ok ty_ok cl_ok _) s13 rfl rfl tl (AllL.cons rfl l0_ok (AllL.cons rfl l2_ok AllL.nil)) (fun _ _=>⟨rfl,rfl⟩) (fun _ _=>⟨rfl,rfl⟩) m_eq
end M13
end Go.Proofs.Ytddaobhpffpmoaa
