/- A part of the proof. -/
import Derived.Test.YtddaobhpffpmoaaSR7QGs
import Derived.Test.YtddaobhpffpmoaaSR7QSc
import Derived.Test.YtddaobhpffpmoaaSR7QGb
import Derived.Test.YtddaobhpffpmoaaSR7QGa
import Derived.Test.YtddaobhpffpmoaaSR7QSd
import Derived.Test.YtddaobhpffpmoaaSR7QSb
set_option linter.all false
set_option maxRecDepth 100000
noncomputable section
namespace Go.Proofs.Ytddaobhpffpmoaa
open Go.Abs
namespace M65
structure gX where(n t:Int)(ph:List (Int))(c:Int)
def g:Sg gX:=⟨[.agg [.it .i64,.it .u64,.arr (.int .u64),.it .i64]],[],λa b=>⟨a.1.1,a.1.2.1,a.1.2.2.1,a.1.2.2.2.1⟩,λx=>((x.n,(x.t,(x.ph,(x.c,())))),()),λx=>()⟩
abbrev fY:=Int×(List ((Int)×List (Int)))×Int
def f:Ft fY:=⟨none,.tup [.inr [.it .i64,.arr (.pair (.int .i64) (.sl (.int .u64)))],.inl (.it .i64)],[],λa b=>(a.1.1,a.1.2.1,a.2.1),λy=>((y.1,(y.2.1,())),(y.2.2,())),λy=>()⟩
def cl:List (FuncId×Con):=[(72,M72.con),(97,M97.con)]
theorem Q3:QF Try.prog cl:=⟨M72.con_ok,M97.con_ok,trivial⟩
def E0:Env:=⟨ty,QN cl,λ_=>none,none⟩
def m(x:gX):Option fY:=bindO (M72.m ⟨x.n,x.t,x.ph,x.c⟩) λy=>bif y !=0 then some (0,[],y) else bindO (M97.m ⟨x.n,x.t,x.ph,x.c⟩) λy=>some (y.1,y.2,0)
theorem QL(x:gX):exec E0 13 C65 0 (QP 0 (g.A x)) (g.H x) (finish 0 ty [.cell 2 40,.tmp 3] f)=m x:=by kernel_rfl
theorem tl:QI C65 0=[]:=by kernel_rfl
theorem known:QM Try.prog 65 g f m:=
 Q8 mixed (Q5 QB Q3 _) s65 rfl rfl tl QA.nil (λ_ _=>⟨rfl,rfl⟩) (λ_ _=>⟨rfl,rfl⟩) QL
def con:Con:=J9 g f m default
theorem con_ok:QR Try.prog 65 con:=QG known (λ_=>rfl) rfl
end M65
namespace M63
structure gX where(n t:Int)(ph:List (Int))(c:Int)(l:List (List (Int)))
def g:Sg gX:=⟨[.agg [.it .i64,.it .u64,.arr (.int .u64),.it .i64],.c (.arr (.sl (.int .u8)))],[],λa b=>⟨a.1.1,a.1.2.1,a.1.2.2.1,a.1.2.2.2.1,a.2.1⟩,λx=>((x.n,(x.t,(x.ph,(x.c,())))),(x.l,())),λx=>()⟩
abbrev fY:=Int×Int
def f:Ft fY:=⟨none,.tup [.inl (.it .u64),.inl (.it .i64)],[],λa b=>(a.1,a.2.1),λy=>(y.1,(y.2,())),λy=>()⟩
def cl:List (FuncId×Con):=[(72,M72.con),(96,M96.con),(97,M97.con),(52,M52.con),(22,M22.con)]
theorem Q3:QF Try.prog cl:=⟨M72.con_ok,M96.con_ok,M97.con_ok,M52.con_ok,M22.con_ok,trivial⟩
def E2:Env:=⟨ty,QN cl,λ_=>none,none⟩
structure p1X where(side_lo side_len:Nat)(l:List (List (Int)))(n j j1:Int)(r:List (Int))(n2 i n3 t:Int)(ph:List (Int))(c ac:Int)(ar:List ((Int)×List (Int)))(sc:Int)(sr_lo sr_len:Nat)(rs:List ((Int)×List (Int)))(side:List (Int))
def p1:Pt p1X where
 own:=[.cell 2 1 (.pair (.int .i64) (.sl (.int .u64))),.reg 10 (.int .u8)]
 t:=⟨[(2,.c (.ptr 0 0)),(8,.c (.ptr 1 0)),(9,.c (.ptr 2 0)),(10,.c (.sl 4 0 1)),(36,.c (.arr (.sl (.int .u8)))),(37,.c (.it .i64)),(38,.c (.it .i64)),(11,.c (.it .i64)),(43,.c (.arr (.int .u8))),(44,.c (.it .i64)),(45,.c (.it .i64))],[.st [.it .i64,.it .u64,.arr (.int .u64),.it .i64] 1 0,.st [.it .i64,.arr (.pair (.int .i64) (.sl (.int .u64)))] 1 0,.st [.it .i64,.sl 3 0 2] 1 0,.arr (.pair (.int .i64) (.sl (.int .u64))) 0,.arr (.int .u8) 0]⟩
 to:=λv=>⟨v.1.2.2.2.1.1,v.1.2.2.2.1.2,v.1.2.2.2.2.1,v.1.2.2.2.2.2.1,v.1.2.2.2.2.2.2.1,v.1.2.2.2.2.2.2.2.1,v.1.2.2.2.2.2.2.2.2.1,v.1.2.2.2.2.2.2.2.2.2.1,v.1.2.2.2.2.2.2.2.2.2.2.1,v.2.1.1,v.2.1.2.1,v.2.1.2.2.1,v.2.1.2.2.2.1,v.2.2.1.1,v.2.2.1.2.1,v.2.2.2.1.1,v.2.2.2.1.2.1.1,v.2.2.2.1.2.1.2,v.2.2.2.2.1,v.2.2.2.2.2.1⟩
 fr:=λx=>(((),((),((),((x.side_lo,x.side_len),(x.l,(x.n,(x.j,(x.j1,(x.r,(x.n2,(x.i,()))))))))))),((x.n3,(x.t,(x.ph,(x.c,())))),((x.ac,(x.ar,())),((x.sc,((x.sr_lo,x.sr_len),())),(x.rs,(x.side,()))))))
structure q1X where(side_lo side_len:Nat)(l:List (List (Int)))(n j n2 t:Int)(ph:List (Int))(c ac:Int)(ar:List ((Int)×List (Int)))(sc:Int)(sr_lo sr_len:Nat)(rs:List ((Int)×List (Int)))(side:List (Int))
def q1:Pt q1X where
 own:=[]
 t:=⟨[(2,.c (.ptr 0 0)),(8,.c (.ptr 1 0)),(9,.c (.ptr 2 0)),(10,.c (.sl 4 0 1)),(36,.c (.arr (.sl (.int .u8)))),(37,.c (.it .i64)),(38,.c (.it .i64))],[.st [.it .i64,.it .u64,.arr (.int .u64),.it .i64] 1 0,.st [.it .i64,.arr (.pair (.int .i64) (.sl (.int .u64)))] 1 0,.st [.it .i64,.sl 3 0 2] 1 0,.arr (.pair (.int .i64) (.sl (.int .u64))) 0,.arr (.int .u8) 0]⟩
 to:=λv=>⟨v.1.2.2.2.1.1,v.1.2.2.2.1.2,v.1.2.2.2.2.1,v.1.2.2.2.2.2.1,v.1.2.2.2.2.2.2.1,v.2.1.1,v.2.1.2.1,v.2.1.2.2.1,v.2.1.2.2.2.1,v.2.2.1.1,v.2.2.1.2.1,v.2.2.2.1.1,v.2.2.2.1.2.1.1,v.2.2.2.1.2.1.2,v.2.2.2.2.1,v.2.2.2.2.2.1⟩
 fr:=λx=>(((),((),((),((x.side_lo,x.side_len),(x.l,(x.n,(x.j,()))))))),((x.n2,(x.t,(x.ph,(x.c,())))),((x.ac,(x.ar,())),((x.sc,((x.sr_lo,x.sr_len),())),(x.rs,(x.side,()))))))
def s1(x:p1X):Option (p1X⊕q1X):=bif decide (x.i<x.n2) then bif inR x.i x.r.length then bif x.r[x.i.toNat]?.getD 0 !=2 then bif inR (IntKind.i64.wrap (IntKind.i64.wrap (x.j1*x.c)+x.i)) x.ar.length then bif eqN x.sr_lo 0&&eqN x.rs.length x.sr_len&&Ql (x.sr_len+1) 32 then bif eqN x.side_lo 0&&eqN x.side.length x.side_len&&Ql (x.side_len+1) 1 then some (Sum.inl ⟨0,x.side_len+1,x.l,x.n,x.j,x.j1,x.r,x.n2,IntKind.i64.wrap (x.i+1),x.n3,x.t,x.ph,x.c,x.ac,x.ar,x.sc,0,x.sr_len+1,x.rs++[((x.ar[(IntKind.i64.wrap (IntKind.i64.wrap (x.j1*x.c)+x.i)).toNat]?.getD (0,[])).1,(x.ar[(IntKind.i64.wrap (IntKind.i64.wrap (x.j1*x.c)+x.i)).toNat]?.getD (0,[])).2)],x.side++[x.r[x.i.toNat]?.getD 0]⟩) else none else none else none else some (Sum.inl ⟨x.side_lo,x.side_len,x.l,x.n,x.j,x.j1,x.r,x.n2,IntKind.i64.wrap (x.i+1),x.n3,x.t,x.ph,x.c,x.ac,x.ar,x.sc,x.sr_lo,x.sr_len,x.rs,x.side⟩) else none else some (Sum.inr ⟨x.side_lo,x.side_len,x.l,x.n,x.j,x.n3,x.t,x.ph,x.c,x.ac,x.ar,x.sc,x.sr_lo,x.sr_len,x.rs,x.side⟩)
theorem X3(x:p1X):exec E2 91 (C63.Q2 1) 2 (p1.R x) (p1.H x) (Qr 0 p1 (.exit 2) q1)=s1 x:=by kernel_rfl
def l1:QU:=Qs 0 p1 (.exit 2) q1 s1
theorem tl1:QI (C63.Q2 1) 2=[]:=by kernel_rfl
theorem X6  :QH Try.prog 91 none 0 (C63.Q2 1) l1:=QS mixed (Q5 QB Q3 _) (by trivial) (λ_=>rfl) (λ_=>rfl) (tl1▸QA.nil) X3
def E1:Env:=⟨ty,QN cl,JH [(1,l1)],none⟩
structure p0X where(side_lo side_len:Nat)(l:List (List (Int)))(n j n2 t:Int)(ph:List (Int))(c ac:Int)(ar:List ((Int)×List (Int)))(sc:Int)(sr_lo sr_len:Nat)(rs:List ((Int)×List (Int)))(side:List (Int))
def p0:Pt p0X where
 own:=[.cell 2 1 (.pair (.int .i64) (.sl (.int .u64))),.reg 10 (.int .u8)]
 t:=⟨[(2,.c (.ptr 0 0)),(8,.c (.ptr 1 0)),(9,.c (.ptr 2 0)),(10,.c (.sl 4 0 1)),(36,.c (.arr (.sl (.int .u8)))),(37,.c (.it .i64)),(38,.c (.it .i64))],[.st [.it .i64,.it .u64,.arr (.int .u64),.it .i64] 1 0,.st [.it .i64,.arr (.pair (.int .i64) (.sl (.int .u64)))] 1 0,.st [.it .i64,.sl 3 0 2] 1 0,.arr (.pair (.int .i64) (.sl (.int .u64))) 0,.arr (.int .u8) 0]⟩
 to:=λv=>⟨v.1.2.2.2.1.1,v.1.2.2.2.1.2,v.1.2.2.2.2.1,v.1.2.2.2.2.2.1,v.1.2.2.2.2.2.2.1,v.2.1.1,v.2.1.2.1,v.2.1.2.2.1,v.2.1.2.2.2.1,v.2.2.1.1,v.2.2.1.2.1,v.2.2.2.1.1,v.2.2.2.1.2.1.1,v.2.2.2.1.2.1.2,v.2.2.2.2.1,v.2.2.2.2.2.1⟩
 fr:=λx=>(((),((),((),((x.side_lo,x.side_len),(x.l,(x.n,(x.j,()))))))),((x.n2,(x.t,(x.ph,(x.c,())))),((x.ac,(x.ar,())),((x.sc,((x.sr_lo,x.sr_len),())),(x.rs,(x.side,()))))))
structure q0X where(side:List (Int))(n t:Int)(ph:List (Int))(c ac:Int)(ar:List ((Int)×List (Int)))(sc:Int)(sr:List ((Int)×List (Int)))
def q0:Pt q0X where
 own:=[]
 t:=⟨[(9,.c (.ptr 2 0)),(10,.c (.arr (.int .u8)))],[.st [.it .i64,.it .u64,.arr (.int .u64),.it .i64] 1 0,.st [.it .i64,.arr (.pair (.int .i64) (.sl (.int .u64)))] 1 0,.st [.it .i64,.arr (.pair (.int .i64) (.sl (.int .u64)))] 1 0]⟩
 to:=λv=>⟨v.1.2.1,v.2.1.1,v.2.1.2.1,v.2.1.2.2.1,v.2.1.2.2.2.1,v.2.2.1.1,v.2.2.1.2.1,v.2.2.2.1.1,v.2.2.2.1.2.1⟩
 fr:=λx=>(((),(x.side,())),((x.n,(x.t,(x.ph,(x.c,())))),((x.ac,(x.ar,())),((x.sc,(x.sr,())),()))))
def s0(x:p0X):Option (p0X⊕q0X):=bif decide (x.j<x.n) then bif inR x.j x.l.length then bindO (iter s1 ⟨x.side_lo,x.side_len,x.l,x.n,x.j,x.j,x.l[x.j.toNat]?.getD [],(↑(List.length (x.l[x.j.toNat]?.getD [])):Int),0,x.n2,x.t,x.ph,x.c,x.ac,x.ar,x.sc,x.sr_lo,x.sr_len,x.rs,x.side⟩) λy=>some (Sum.inl ⟨y.side_lo,y.side_len,y.l,y.n,IntKind.i64.wrap (y.j+1),y.n2,y.t,y.ph,y.c,y.ac,y.ar,y.sc,y.sr_lo,y.sr_len,y.rs,y.side⟩) else none else bif leB (x.side_lo+x.side_len) x.side.length&&true&&(leB (x.sr_lo+x.sr_len) x.rs.length&&true&&true) then some (Sum.inr ⟨List.take x.side_len (List.drop x.side_lo x.side),x.n2,x.t,x.ph,x.c,x.ac,x.ar,x.sc,List.take x.sr_len (List.drop x.sr_lo x.rs)⟩) else none
theorem QZ(x:p0X):exec E1 91 (C63.Q2 0) 1 (p0.R x) (p0.H x) (Qr 0 p0 (.exit 0) q0)=s0 x:=by kernel_rfl
def l0:QU:=Qs 0 p0 (.exit 0) q0 s0
theorem tl0:QI (C63.Q2 0) 1=[(1,C63.Q2 1)]:=by kernel_rfl
theorem Qa  :QH Try.prog 91 none 0 (C63.Q2 0) l0:=QS mixed (Q5 QB Q3 _) (by trivial) (λ_=>rfl) (λ_=>rfl) (tl0▸(QA.cons rfl X6 QA.nil)) QZ
def E0:Env:=⟨ty,QN cl,JH [(0,l0),(1,l1)],none⟩
def m(x:gX):Option fY:=bindO (M72.m ⟨x.n,x.t,x.ph,x.c⟩) λy=>bif y !=0 then some (0,y) else bindO (M96.m ⟨x.n,x.t,x.ph,x.c,x.l⟩) λy=>bif y !=0 then some (0,y) else bindO (M97.m ⟨x.n,x.t,x.ph,x.c⟩) λy=>bindO (iter s0 ⟨0,0,x.l,(↑x.l.length:Int),0,x.n,x.t,x.ph,x.c,y.1,y.2,y.1,0,0,[],[]⟩) λy=>bindO (M52.m ⟨y.side⟩) λy_1=>bindO (M22.m ⟨y.sc,y.sr,y_1.1,y_1.2.1⟩) λy=>bif y.2.2 !=0 then some (0,y.2.2) else bif inR 0 y.2.1.length then some (y.2.1[0]?.getD 0,0) else none
theorem QL(x:gX):exec E0 91 C63 0 (QP 0 (g.A x)) (g.H x) (finish 0 ty [.tmp 4,.tmp 5] f)=m x:=by kernel_rfl
theorem tl:QI C63 0=[(0,C63.Q2 0)]:=by kernel_rfl
theorem known:QM Try.prog 63 g f m:=
 Q8 mixed (Q5 QB Q3 _) s63 rfl rfl tl (QA.cons rfl Qa QA.nil) (λ_ _=>⟨rfl,rfl⟩) (λ_ _=>⟨rfl,rfl⟩) QL
def con:Con:=J9 g f m default
theorem con_ok:QR Try.prog 63 con:=QG known (λ_=>rfl) rfl
end M63
namespace M59
abbrev gX:=Unit
def g:Sg gX:=⟨[],[],λa b=>(),λx=>(),λx=>()⟩
abbrev fY:=Bool
def f:Ft fY:=⟨none,.c (.bo),[],λa b=>(a),λy=>y,λy=>()⟩
def cl:List (FuncId×Con):=[(58,M58.con),(69,M69.con),(55,M55.con),(61,M61.con),(64,M64.con),(63,M63.con),(71,M71.con)]
theorem Q3:QF Try.prog cl:=⟨M58.con_ok,M69.con_ok,M55.con_ok,M61.con_ok,M64.con_ok,M63.con_ok,M71.con_ok,trivial⟩
def E0:Env:=⟨ty,QN cl,λ_=>none,none⟩
def m(x:gX):Option fY:=bindO (M58.m ⟨4,12,1⟩) λy=>bindO (M58.m ⟨4,12,4⟩) λy_1=>bindO (M58.m ⟨4,12,13⟩) λy_2=>bindO (M69.m ⟨4,12,1,7⟩) λy_3=>bindO (M55.m ⟨4,12,1,20⟩) λy_4=>bindO (M61.m ⟨4,12,[1,6],3,5⟩) λy_5=>bif !bif bif bif bif bif bif bif bif bif bif y.2 !=0 then true else y_1.2 !=0 then true else y_2.2 !=0 then true else y_3.2 !=0 then true else y_4.2 !=0 then true else y_5.2 !=0 then true else y.1 !=2 then true else y_1.1 !=9 then true else y_2.1 !=10 then true else y_3.1 !=10 then true else y_4.1 !=15 then bindO (M64.m ⟨y_5.1,[[1,1,1],[0,1,1]]⟩) λy=>bif !y then some false else bindO (M63.m ⟨4,12,[1,6],3,[[2,1,2],[1,2,2]]⟩) λy=>bindO (M63.m ⟨4,12,[1,1],3,[[1,2,2],[0,2,2]]⟩) λy_6=>bindO (M58.m ⟨4,12,16⟩) λy_7=>bindO (M55.m ⟨4,12,1,14⟩) λy_8=>bindO (bif bif bif bif bif y.2==0 then y.1==4 else false then y_6.2==9 else false then y_7.2==1 else false then y_8.2==3 else false then M71.m ⟨4,3⟩ else some (Int.ofNat 0)) λy_9=>some (bif bif bif bif bif y.2==0 then y.1==4 else false then y_6.2==9 else false then y_7.2==1 else false then y_8.2==3 else false then y_9==1 else false) else some false
theorem QL(x:gX):exec E0 158 C59 0 (QP 0 (g.A x)) (g.H x) (finish 0 ty [.tmp 0] f)=m x:=by kernel_rfl
theorem tl:QI C59 0=[]:=by kernel_rfl
theorem known:QM Try.prog 59 g f m:=
 Q8 mixed (Q5 QB Q3 _) s59 rfl rfl tl QA.nil (λ_ _=>⟨rfl,rfl⟩) (λ_ _=>⟨rfl,rfl⟩) QL
def con:Con:=J9 g f m default
theorem con_ok:QR Try.prog 59 con:=QG known (λ_=>rfl) rfl
end M59
