/-
  What the proof stands on.
-/
import Derived.Test.YtddaobhpffpmoaaSR6QGs
import Derived.Test.YtddaobhpffpmoaaSR6QSc
import Derived.Test.YtddaobhpffpmoaaSR6QGb
import Derived.Test.YtddaobhpffpmoaaSR6QGa
import Derived.Test.YtddaobhpffpmoaaSR6QSd
import Derived.Test.YtddaobhpffpmoaaSR6QSb
set_option linter.all false
noncomputable section
namespace Go.Proofs.Ytddaobhpffpmoaa
open Go.Abs
set_option maxRecDepth 100000
namespace M63
structure gX where
 n:Int
 t:Int
 ph:List (Int)
 c:Int
 l:List (List (Int))
def g:Sg gX where
 vs:=[.agg [.it .i64,.it .u64,.arr (.int .u64),.it .i64],.c (.arr (.sl (.int .u8)))]
 h:=[]
 to:=fun a b=>⟨a.1.1,a.1.2.1,a.1.2.2.1,a.1.2.2.2.1,a.2.1⟩
 fa:=fun x=>((x.n,(x.t,(x.ph,(x.c,())))),(x.l,()))
 fh:=fun x=>()
abbrev fY:=Int×Int
def f:Ft fY where
 ord:=none
 sh:=.tup [.inl (.it .u64),.inl (.it .i64)]
 h:=[]
 to:=fun a b=>(a.1,a.2.1)
 fv:=fun y=>(y.1,(y.2,()))
 fh:=fun y=>()
def cl:List (FuncId×Con):=[(72,M72.con),(96,M96.con),(97,M97.con),(52,M52.con),(22,M22.con)]
theorem cl_ok:allCon Try.prog cl:=⟨M72.con_ok,M96.con_ok,M97.con_ok,M52.con_ok,M22.con_ok,trivial⟩
def E2:Env:=⟨ty,cfOf cl,fun _=>none,none⟩
structure p1X where
 side_lo:Nat
 side_len:Nat
 l:List (List (Int))
 n:Int
 j:Int
 j1:Int
 r:List (Int)
 n2:Int
 i:Int
 n3:Int
 t:Int
 ph:List (Int)
 c:Int
 ac:Int
 ar:List ((Int)×List (Int))
 sc:Int
 sr_lo:Nat
 sr_len:Nat
 rs:List ((Int)×List (Int))
 side:List (Int)
def p1:Pt p1X where
 own:=[.cell 2 1 (.pair (.int .i64) (.sl (.int .u64))),.reg 10 (.int .u8)]
 t:=⟨[(2,.c (.ptr 0 0)),(8,.c (.ptr 1 0)),(9,.c (.ptr 2 0)),(10,.c (.sl 4 0 1)),(36,.c (.arr (.sl (.int .u8)))),(37,.c (.it .i64)),(38,.c (.it .i64)),(11,.c (.it .i64)),(43,.c (.arr (.int .u8))),(44,.c (.it .i64)),(45,.c (.it .i64))],[.st [.it .i64,.it .u64,.arr (.int .u64),.it .i64] 1 0,.st [.it .i64,.arr (.pair (.int .i64) (.sl (.int .u64)))] 1 0,.st [.it .i64,.sl 3 0 2] 1 0,.arr (.pair (.int .i64) (.sl (.int .u64))) 0,.arr (.int .u8) 0]⟩
 to:=fun v=>⟨v.1.2.2.2.1.1,v.1.2.2.2.1.2,v.1.2.2.2.2.1,v.1.2.2.2.2.2.1,v.1.2.2.2.2.2.2.1,v.1.2.2.2.2.2.2.2.1,v.1.2.2.2.2.2.2.2.2.1,v.1.2.2.2.2.2.2.2.2.2.1,v.1.2.2.2.2.2.2.2.2.2.2.1,v.2.1.1,v.2.1.2.1,v.2.1.2.2.1,v.2.1.2.2.2.1,v.2.2.1.1,v.2.2.1.2.1,v.2.2.2.1.1,v.2.2.2.1.2.1.1,v.2.2.2.1.2.1.2,v.2.2.2.2.1,v.2.2.2.2.2.1⟩
 fr:=fun x=>(((),((),((),((x.side_lo,x.side_len),(x.l,(x.n,(x.j,(x.j1,(x.r,(x.n2,(x.i,()))))))))))),((x.n3,(x.t,(x.ph,(x.c,())))),((x.ac,(x.ar,())),((x.sc,((x.sr_lo,x.sr_len),())),(x.rs,(x.side,()))))))
structure q1X where
 side_lo:Nat
 side_len:Nat
 l:List (List (Int))
 n:Int
 j:Int
 n2:Int
 t:Int
 ph:List (Int)
 c:Int
 ac:Int
 ar:List ((Int)×List (Int))
 sc:Int
 sr_lo:Nat
 sr_len:Nat
 rs:List ((Int)×List (Int))
 side:List (Int)
def q1:Pt q1X where
 own:=[]
 t:=⟨[(2,.c (.ptr 0 0)),(8,.c (.ptr 1 0)),(9,.c (.ptr 2 0)),(10,.c (.sl 4 0 1)),(36,.c (.arr (.sl (.int .u8)))),(37,.c (.it .i64)),(38,.c (.it .i64))],[.st [.it .i64,.it .u64,.arr (.int .u64),.it .i64] 1 0,.st [.it .i64,.arr (.pair (.int .i64) (.sl (.int .u64)))] 1 0,.st [.it .i64,.sl 3 0 2] 1 0,.arr (.pair (.int .i64) (.sl (.int .u64))) 0,.arr (.int .u8) 0]⟩
 to:=fun v=>⟨v.1.2.2.2.1.1,v.1.2.2.2.1.2,v.1.2.2.2.2.1,v.1.2.2.2.2.2.1,v.1.2.2.2.2.2.2.1,v.2.1.1,v.2.1.2.1,v.2.1.2.2.1,v.2.1.2.2.2.1,v.2.2.1.1,v.2.2.1.2.1,v.2.2.2.1.1,v.2.2.2.1.2.1.1,v.2.2.2.1.2.1.2,v.2.2.2.2.1,v.2.2.2.2.2.1⟩
 fr:=fun x=>(((),((),((),((x.side_lo,x.side_len),(x.l,(x.n,(x.j,()))))))),((x.n2,(x.t,(x.ph,(x.c,())))),((x.ac,(x.ar,())),((x.sc,((x.sr_lo,x.sr_len),())),(x.rs,(x.side,()))))))
def s1(x:p1X):Option (p1X⊕q1X):=bif decide (x.i<x.n2) then bif inR x.i x.r.length then bif x.r[x.i.toNat]?.getD 0 !=2 then bif inR (IntKind.i64.wrap (IntKind.i64.wrap (x.j1*x.c)+x.i)) x.ar.length then bif eqN x.sr_lo 0&&eqN x.rs.length x.sr_len&&roomB (x.sr_len+1) 32 then bif eqN x.side_lo 0&&eqN x.side.length x.side_len&&roomB (x.side_len+1) 1 then some (Sum.inl ⟨0,x.side_len+1,x.l,x.n,x.j,x.j1,x.r,x.n2,IntKind.i64.wrap (x.i+1),x.n3,x.t,x.ph,x.c,x.ac,x.ar,x.sc,0,x.sr_len+1,x.rs++[((x.ar[(IntKind.i64.wrap (IntKind.i64.wrap (x.j1*x.c)+x.i)).toNat]?.getD (0,[])).1,(x.ar[(IntKind.i64.wrap (IntKind.i64.wrap (x.j1*x.c)+x.i)).toNat]?.getD (0,[])).2)],x.side++[x.r[x.i.toNat]?.getD 0]⟩) else none else none else none else some (Sum.inl ⟨x.side_lo,x.side_len,x.l,x.n,x.j,x.j1,x.r,x.n2,IntKind.i64.wrap (x.i+1),x.n3,x.t,x.ph,x.c,x.ac,x.ar,x.sc,x.sr_lo,x.sr_len,x.rs,x.side⟩) else none else some (Sum.inr ⟨x.side_lo,x.side_len,x.l,x.n,x.j,x.n3,x.t,x.ph,x.c,x.ac,x.ar,x.sc,x.sr_lo,x.sr_len,x.rs,x.side⟩)
theorem s1_eq(x:p1X):exec E2 91 (C63.bodyAt 1) 2 (p1.R x) (p1.H x) (roundK 0 p1 (.exit 2) q1)=s1 x:=by kernel_rfl
def l1:LoopS:=mkLoop 0 p1 (.exit 2) q1 s1
theorem tl1:topL (C63.bodyAt 1) 2=[]:=by kernel_rfl
theorem l1_ok  :LoopOkS Try.prog 91 none 0 (C63.bodyAt 1) l1:=mkLoop_ok mixed (env_ok ty_ok cl_ok _) (by trivial) (fun _=>rfl) (fun _=>rfl) (tl1▸AllL.nil) s1_eq
def E1:Env:=⟨ty,cfOf cl,lpOf [(1,l1)],none⟩
structure p0X where
 side_lo:Nat
 side_len:Nat
 l:List (List (Int))
 n:Int
 j:Int
 n2:Int
 t:Int
 ph:List (Int)
 c:Int
 ac:Int
 ar:List ((Int)×List (Int))
 sc:Int
 sr_lo:Nat
 sr_len:Nat
 rs:List ((Int)×List (Int))
 side:List (Int)
def p0:Pt p0X where
 own:=[.cell 2 1 (.pair (.int .i64) (.sl (.int .u64))),.reg 10 (.int .u8)]
 t:=⟨[(2,.c (.ptr 0 0)),(8,.c (.ptr 1 0)),(9,.c (.ptr 2 0)),(10,.c (.sl 4 0 1)),(36,.c (.arr (.sl (.int .u8)))),(37,.c (.it .i64)),(38,.c (.it .i64))],[.st [.it .i64,.it .u64,.arr (.int .u64),.it .i64] 1 0,.st [.it .i64,.arr (.pair (.int .i64) (.sl (.int .u64)))] 1 0,.st [.it .i64,.sl 3 0 2] 1 0,.arr (.pair (.int .i64) (.sl (.int .u64))) 0,.arr (.int .u8) 0]⟩
 to:=fun v=>⟨v.1.2.2.2.1.1,v.1.2.2.2.1.2,v.1.2.2.2.2.1,v.1.2.2.2.2.2.1,v.1.2.2.2.2.2.2.1,v.2.1.1,v.2.1.2.1,v.2.1.2.2.1,v.2.1.2.2.2.1,v.2.2.1.1,v.2.2.1.2.1,v.2.2.2.1.1,v.2.2.2.1.2.1.1,v.2.2.2.1.2.1.2,v.2.2.2.2.1,v.2.2.2.2.2.1⟩
 fr:=fun x=>(((),((),((),((x.side_lo,x.side_len),(x.l,(x.n,(x.j,()))))))),((x.n2,(x.t,(x.ph,(x.c,())))),((x.ac,(x.ar,())),((x.sc,((x.sr_lo,x.sr_len),())),(x.rs,(x.side,()))))))
structure q0X where
 side:List (Int)
 n:Int
 t:Int
 ph:List (Int)
 c:Int
 ac:Int
 ar:List ((Int)×List (Int))
 sc:Int
 sr:List ((Int)×List (Int))
def q0:Pt q0X where
 own:=[]
 t:=⟨[(9,.c (.ptr 2 0)),(10,.c (.arr (.int .u8)))],[.st [.it .i64,.it .u64,.arr (.int .u64),.it .i64] 1 0,.st [.it .i64,.arr (.pair (.int .i64) (.sl (.int .u64)))] 1 0,.st [.it .i64,.arr (.pair (.int .i64) (.sl (.int .u64)))] 1 0]⟩
 to:=fun v=>⟨v.1.2.1,v.2.1.1,v.2.1.2.1,v.2.1.2.2.1,v.2.1.2.2.2.1,v.2.2.1.1,v.2.2.1.2.1,v.2.2.2.1.1,v.2.2.2.1.2.1⟩
 fr:=fun x=>(((),(x.side,())),((x.n,(x.t,(x.ph,(x.c,())))),((x.ac,(x.ar,())),((x.sc,(x.sr,())),()))))
def s0(x:p0X):Option (p0X⊕q0X):=bif decide (x.j<x.n) then bif inR x.j x.l.length then bindO (iter s1 ⟨x.side_lo,x.side_len,x.l,x.n,x.j,x.j,x.l[x.j.toNat]?.getD [],(↑(List.length (x.l[x.j.toNat]?.getD [])):Int),0,x.n2,x.t,x.ph,x.c,x.ac,x.ar,x.sc,x.sr_lo,x.sr_len,x.rs,x.side⟩) fun y=>some (Sum.inl ⟨y.side_lo,y.side_len,y.l,y.n,IntKind.i64.wrap (y.j+1),y.n2,y.t,y.ph,y.c,y.ac,y.ar,y.sc,y.sr_lo,y.sr_len,y.rs,y.side⟩) else none else bif leB (x.side_lo+x.side_len) x.side.length&&true&&(leB (x.sr_lo+x.sr_len) x.rs.length&&true&&true) then some (Sum.inr ⟨List.take x.side_len (List.drop x.side_lo x.side),x.n2,x.t,x.ph,x.c,x.ac,x.ar,x.sc,List.take x.sr_len (List.drop x.sr_lo x.rs)⟩) else none
theorem s0_eq(x:p0X):exec E1 91 (C63.bodyAt 0) 1 (p0.R x) (p0.H x) (roundK 0 p0 (.exit 0) q0)=s0 x:=by kernel_rfl
def l0:LoopS:=mkLoop 0 p0 (.exit 0) q0 s0
theorem tl0:topL (C63.bodyAt 0) 1=[(1,C63.bodyAt 1)]:=by kernel_rfl
theorem l0_ok  :LoopOkS Try.prog 91 none 0 (C63.bodyAt 0) l0:=mkLoop_ok mixed (env_ok ty_ok cl_ok _) (by trivial) (fun _=>rfl) (fun _=>rfl) (tl0▸(AllL.cons rfl l1_ok AllL.nil)) s0_eq
def E0:Env:=⟨ty,cfOf cl,lpOf [(0,l0),(1,l1)],none⟩
def m(x:gX):Option fY:=bindO (M72.m ⟨x.n,x.t,x.ph,x.c⟩) fun y=>bif y !=0 then some (0,y) else bindO (M96.m ⟨x.n,x.t,x.ph,x.c,x.l⟩) fun y=>bif y !=0 then some (0,y) else bindO (M97.m ⟨x.n,x.t,x.ph,x.c⟩) fun y=>bindO (iter s0 ⟨0,0,x.l,(↑x.l.length:Int),0,x.n,x.t,x.ph,x.c,y.1,y.2,y.1,0,0,[],[]⟩) fun y=>bindO (M52.m ⟨y.side⟩) fun y_1=>bindO (M22.m ⟨y.sc,y.sr,y_1.1,y_1.2.1⟩) fun y=>bif y.2.2 !=0 then some (0,y.2.2) else bif inR 0 y.2.1.length then some (y.2.1[0]?.getD 0,0) else none
theorem m_eq(x:gX):exec E0 91 C63 0 (initS 0 (g.A x)) (g.H x) (finish 0 ty [.tmp 4,.tmp 5] f)=m x:=by kernel_rfl
theorem tl:topL C63 0=[(0,C63.bodyAt 0)]:=by kernel_rfl
theorem known:Known Try.prog 63 g f m:=
 mk_known mixed (env_ok ty_ok cl_ok _) s63 rfl rfl tl (AllL.cons rfl l0_ok AllL.nil) (fun _ _=>⟨rfl,rfl⟩) (fun _ _=>⟨rfl,rfl⟩) m_eq
def con:Con:=conT g f m default
theorem con_ok:ConOk Try.prog 63 con:=conT_ok known (fun _=>rfl) rfl
end M63
end Go.Proofs.Ytddaobhpffpmoaa
namespace Go.Proofs.Ytddaobhpffpmoaa
open Go.Abs
set_option maxRecDepth 100000
namespace M59
abbrev gX:=Unit
def g:Sg gX where
 vs:=[]
 h:=[]
 to:=fun a b=>()
 fa:=fun x=>()
 fh:=fun x=>()
abbrev fY:=Bool
def f:Ft fY where
 ord:=none
 sh:=.c (.bo)
 h:=[]
 to:=fun a b=>(a)
 fv:=fun y=>y
 fh:=fun y=>()
def cl:List (FuncId×Con):=[(58,M58.con),(69,M69.con),(55,M55.con),(61,M61.con),(64,M64.con),(63,M63.con),(71,M71.con)]
theorem cl_ok:allCon Try.prog cl:=⟨M58.con_ok,M69.con_ok,M55.con_ok,M61.con_ok,M64.con_ok,M63.con_ok,M71.con_ok,trivial⟩
def E0:Env:=⟨ty,cfOf cl,fun _=>none,none⟩
def m(x:gX):Option fY:=bindO (M58.m ⟨4,12,1⟩) fun y=>bindO (M58.m ⟨4,12,4⟩) fun y_1=>bindO (M58.m ⟨4,12,13⟩) fun y_2=>bindO (M69.m ⟨4,12,1,7⟩) fun y_3=>bindO (M55.m ⟨4,12,1,20⟩) fun y_4=>bindO (M61.m ⟨4,12,[1,6],3,5⟩) fun y_5=>bif !bif bif bif bif bif bif bif bif bif bif y.2 !=0 then true else y_1.2 !=0 then true else y_2.2 !=0 then true else y_3.2 !=0 then true else y_4.2 !=0 then true else y_5.2 !=0 then true else y.1 !=2 then true else y_1.1 !=9 then true else y_2.1 !=10 then true else y_3.1 !=10 then true else y_4.1 !=15 then bindO (M64.m ⟨y_5.1,[[1,1,1],[0,1,1]]⟩) fun y=>bif !y then some false else bindO (M63.m ⟨4,12,[1,6],3,[[2,1,2],[1,2,2]]⟩) fun y=>bindO (M63.m ⟨4,12,[1,1],3,[[1,2,2],[0,2,2]]⟩) fun y_6=>bindO (M58.m ⟨4,12,16⟩) fun y_7=>bindO (M55.m ⟨4,12,1,14⟩) fun y_8=>bindO (bif bif bif bif bif y.2==0 then y.1==4 else false then y_6.2==9 else false then y_7.2==1 else false then y_8.2==3 else false then M71.m ⟨4,3⟩ else some (Int.ofNat 0)) fun y_9=>some (bif bif bif bif bif y.2==0 then y.1==4 else false then y_6.2==9 else false then y_7.2==1 else false then y_8.2==3 else false then y_9==1 else false) else some false
theorem m_eq(x:gX):exec E0 158 C59 0 (initS 0 (g.A x)) (g.H x) (finish 0 ty [.tmp 0] f)=m x:=by kernel_rfl
theorem tl:topL C59 0=[]:=by kernel_rfl
theorem known:Known Try.prog 59 g f m:=
 mk_known mixed (env_ok ty_ok cl_ok _) s59 rfl rfl tl AllL.nil (fun _ _=>⟨rfl,rfl⟩) (fun _ _=>⟨rfl,rfl⟩) m_eq
end M59
end Go.Proofs.Ytddaobhpffpmoaa
namespace Go.Proofs.Ytddaobhpffpmoaa
open Go.Abs
set_option maxRecDepth 100000
end Go.Proofs.Ytddaobhpffpmoaa
