/- A part of the proof. -/
import Derived.Test.YtddaobhpffpmoaaSR7QSd
import Derived.Test.YtddaobhpffpmoaaSR7QGb
import Derived.Test.YtddaobhpffpmoaaSR7QGa
import Derived.Test.YtddaobhpffpmoaaSR7QGu
set_option linter.all false
set_option maxRecDepth 100000
noncomputable section
namespace Go.Proofs.Ytddaobhpffpmoaa
open Go.Abs
namespace M65o
structure gX where(n t:Int)(ph_lo ph_len:Nat)(c:Int)(xs:List (Int))
def g:Sg gX:=⟨[.agg [.it .i64,.it .u64,.sl 0 0 1,.it .i64]],[.arr (.int .u64) 0],λa b=>⟨a.1.1,a.1.2.1,a.1.2.2.1.1,a.1.2.2.1.2,a.1.2.2.2.1,b.1⟩,λx=>((x.n,(x.t,((x.ph_lo,x.ph_len),(x.c,())))),()),λx=>(x.xs,())⟩
abbrev fY:=Int×(List ((Int)×List (Int)))×Int×List (Int)
def f:Ft fY:=⟨none,.tup [.inr [.it .i64,.arr (.pair (.int .i64) (.sl (.int .u64)))],.inl (.it .i64)],[.arr (.int .u64) 0],λa b=>(a.1.1,a.1.2.1,a.2.1,b.1),λy=>((y.1,(y.2.1,())),(y.2.2.1,())),λy=>(y.2.2.2,())⟩
def cl:List (FuncId×Con):=[(72,M72r.con),(97,M97o.con)]
theorem Q3:QF Try.prog cl:=⟨M72r.con_ok,M97o.con_ok,trivial⟩
def E0:Env:=⟨ty,QN cl,λ_=>none,none⟩
def m(x:gX):Option fY:=bindO (bif leB (x.ph_lo+x.ph_len) x.xs.length&&true&&true then M72.m ⟨x.n,x.t,List.take x.ph_len (List.drop x.ph_lo x.xs),x.c⟩ else none) λy=>bif y !=0 then some (0,[],y,x.xs) else bindO (M97o.m ⟨x.n,x.t,x.ph_lo,x.ph_len,x.c,x.xs⟩) λy=>some (y.1,y.2.1,0,y.2.2)
theorem QL(x:gX):exec E0 13 C65 0 (QP 0 (g.A x)) (g.H x) (finish 1 ty [.cell 2 40,.tmp 3] f)=m x:=by kernel_rfl
theorem tl:QI C65 0=[]:=by kernel_rfl
theorem known:QM Try.prog 65 g f m:=
 Q8 mixed (Q5 QB Q3 _) s65 rfl rfl tl QA.nil (λ_ _=>⟨rfl,rfl⟩) (λ_ _=>⟨rfl,rfl⟩) QL
def con:Con:=UP g [.arg 0 2] f m default
theorem con_ok:QR Try.prog 65 con:=XX known
end M65o
namespace M63o
structure gX where(n t:Int)(ph_lo ph_len:Nat)(c:Int)(l:List (List (Int)))(xs:List (Int))
def g:Sg gX:=⟨[.agg [.it .i64,.it .u64,.sl 0 0 1,.it .i64],.c (.arr (.sl (.int .u8)))],[.arr (.int .u64) 0],λa b=>⟨a.1.1,a.1.2.1,a.1.2.2.1.1,a.1.2.2.1.2,a.1.2.2.2.1,a.2.1,b.1⟩,λx=>((x.n,(x.t,((x.ph_lo,x.ph_len),(x.c,())))),(x.l,())),λx=>(x.xs,())⟩
abbrev fY:=Int×Int×List (Int)
def f:Ft fY:=⟨none,.tup [.inl (.it .u64),.inl (.it .i64)],[.arr (.int .u64) 0],λa b=>(a.1,a.2.1,b.1),λy=>(y.1,(y.2.1,())),λy=>(y.2.2,())⟩
def cl:List (FuncId×Con):=[(72,M72r.con),(96,M96r.con),(97,M97o.con),(52,M52.con),(22,M22.con)]
theorem Q3:QF Try.prog cl:=⟨M72r.con_ok,M96r.con_ok,M97o.con_ok,M52.con_ok,M22.con_ok,trivial⟩
def E2:Env:=⟨ty,QN cl,λ_=>none,none⟩
structure p1X where(side_lo side_len:Nat)(l:List (List (Int)))(n j j1:Int)(r:List (Int))(n2 i:Int)(xs:List (Int))(n3 t:Int)(ph_lo ph_len:Nat)(c ac:Int)(ar:List ((Int)×List (Int)))(sc:Int)(sr_lo sr_len:Nat)(rs:List ((Int)×List (Int)))(side:List (Int))
def p1:Pt p1X where
 own:=[.cell 3 1 (.pair (.int .i64) (.sl (.int .u64))),.reg 10 (.int .u8)]
 t:=⟨[(2,.c (.ptr 1 0)),(8,.c (.ptr 2 0)),(9,.c (.ptr 3 0)),(10,.c (.sl 5 0 1)),(36,.c (.arr (.sl (.int .u8)))),(37,.c (.it .i64)),(38,.c (.it .i64)),(11,.c (.it .i64)),(43,.c (.arr (.int .u8))),(44,.c (.it .i64)),(45,.c (.it .i64))],[.arr (.int .u64) 0,.st [.it .i64,.it .u64,.sl 0 0 1,.it .i64] 1 0,.st [.it .i64,.arr (.pair (.int .i64) (.sl (.int .u64)))] 1 0,.st [.it .i64,.sl 4 0 2] 1 0,.arr (.pair (.int .i64) (.sl (.int .u64))) 0,.arr (.int .u8) 0]⟩
 to:=λv=>⟨v.1.2.2.2.1.1,v.1.2.2.2.1.2,v.1.2.2.2.2.1,v.1.2.2.2.2.2.1,v.1.2.2.2.2.2.2.1,v.1.2.2.2.2.2.2.2.1,v.1.2.2.2.2.2.2.2.2.1,v.1.2.2.2.2.2.2.2.2.2.1,v.1.2.2.2.2.2.2.2.2.2.2.1,v.2.1,v.2.2.1.1,v.2.2.1.2.1,v.2.2.1.2.2.1.1,v.2.2.1.2.2.1.2,v.2.2.1.2.2.2.1,v.2.2.2.1.1,v.2.2.2.1.2.1,v.2.2.2.2.1.1,v.2.2.2.2.1.2.1.1,v.2.2.2.2.1.2.1.2,v.2.2.2.2.2.1,v.2.2.2.2.2.2.1⟩
 fr:=λx=>(((),((),((),((x.side_lo,x.side_len),(x.l,(x.n,(x.j,(x.j1,(x.r,(x.n2,(x.i,()))))))))))),(x.xs,((x.n3,(x.t,((x.ph_lo,x.ph_len),(x.c,())))),((x.ac,(x.ar,())),((x.sc,((x.sr_lo,x.sr_len),())),(x.rs,(x.side,())))))))
structure q1X where(side_lo side_len:Nat)(l:List (List (Int)))(n j:Int)(xs:List (Int))(n2 t:Int)(ph_lo ph_len:Nat)(c ac:Int)(ar:List ((Int)×List (Int)))(sc:Int)(sr_lo sr_len:Nat)(rs:List ((Int)×List (Int)))(side:List (Int))
def q1:Pt q1X where
 own:=[]
 t:=⟨[(2,.c (.ptr 1 0)),(8,.c (.ptr 2 0)),(9,.c (.ptr 3 0)),(10,.c (.sl 5 0 1)),(36,.c (.arr (.sl (.int .u8)))),(37,.c (.it .i64)),(38,.c (.it .i64))],[.arr (.int .u64) 0,.st [.it .i64,.it .u64,.sl 0 0 1,.it .i64] 1 0,.st [.it .i64,.arr (.pair (.int .i64) (.sl (.int .u64)))] 1 0,.st [.it .i64,.sl 4 0 2] 1 0,.arr (.pair (.int .i64) (.sl (.int .u64))) 0,.arr (.int .u8) 0]⟩
 to:=λv=>⟨v.1.2.2.2.1.1,v.1.2.2.2.1.2,v.1.2.2.2.2.1,v.1.2.2.2.2.2.1,v.1.2.2.2.2.2.2.1,v.2.1,v.2.2.1.1,v.2.2.1.2.1,v.2.2.1.2.2.1.1,v.2.2.1.2.2.1.2,v.2.2.1.2.2.2.1,v.2.2.2.1.1,v.2.2.2.1.2.1,v.2.2.2.2.1.1,v.2.2.2.2.1.2.1.1,v.2.2.2.2.1.2.1.2,v.2.2.2.2.2.1,v.2.2.2.2.2.2.1⟩
 fr:=λx=>(((),((),((),((x.side_lo,x.side_len),(x.l,(x.n,(x.j,()))))))),(x.xs,((x.n2,(x.t,((x.ph_lo,x.ph_len),(x.c,())))),((x.ac,(x.ar,())),((x.sc,((x.sr_lo,x.sr_len),())),(x.rs,(x.side,())))))))
def s1(x:p1X):Option (p1X⊕q1X):=bif decide (x.i<x.n2) then bif inR x.i x.r.length then bif x.r[x.i.toNat]?.getD 0 !=2 then bif inR (IntKind.i64.wrap (IntKind.i64.wrap (x.j1*x.c)+x.i)) x.ar.length then bif eqN x.sr_lo 0&&eqN x.rs.length x.sr_len&&Ql (x.sr_len+1) 32 then bif eqN x.side_lo 0&&eqN x.side.length x.side_len&&Ql (x.side_len+1) 1 then some (Sum.inl ⟨0,x.side_len+1,x.l,x.n,x.j,x.j1,x.r,x.n2,IntKind.i64.wrap (x.i+1),x.xs,x.n3,x.t,x.ph_lo,x.ph_len,x.c,x.ac,x.ar,x.sc,0,x.sr_len+1,x.rs++[((x.ar[(IntKind.i64.wrap (IntKind.i64.wrap (x.j1*x.c)+x.i)).toNat]?.getD (0,[])).1,(x.ar[(IntKind.i64.wrap (IntKind.i64.wrap (x.j1*x.c)+x.i)).toNat]?.getD (0,[])).2)],x.side++[x.r[x.i.toNat]?.getD 0]⟩) else none else none else none else some (Sum.inl ⟨x.side_lo,x.side_len,x.l,x.n,x.j,x.j1,x.r,x.n2,IntKind.i64.wrap (x.i+1),x.xs,x.n3,x.t,x.ph_lo,x.ph_len,x.c,x.ac,x.ar,x.sc,x.sr_lo,x.sr_len,x.rs,x.side⟩) else none else some (Sum.inr ⟨x.side_lo,x.side_len,x.l,x.n,x.j,x.xs,x.n3,x.t,x.ph_lo,x.ph_len,x.c,x.ac,x.ar,x.sc,x.sr_lo,x.sr_len,x.rs,x.side⟩)
theorem X3(x:p1X):exec E2 91 (C63.Q2 1) 2 (p1.R x) (p1.H x) (Qr 1 p1 (.exit 2) q1)=s1 x:=by kernel_rfl
def l1:QU:=Qs 1 p1 (.exit 2) q1 s1
theorem tl1:QI (C63.Q2 1) 2=[]:=by kernel_rfl
theorem X6  :QH Try.prog 91 none 1 (C63.Q2 1) l1:=QS mixed (Q5 QB Q3 _) (by trivial) (λ_=>rfl) (λ_=>rfl) (tl1▸QA.nil) X3
def E1:Env:=⟨ty,QN cl,JH [(1,l1)],none⟩
structure p0X where(side_lo side_len:Nat)(l:List (List (Int)))(n j:Int)(xs:List (Int))(n2 t:Int)(ph_lo ph_len:Nat)(c ac:Int)(ar:List ((Int)×List (Int)))(sc:Int)(sr_lo sr_len:Nat)(rs:List ((Int)×List (Int)))(side:List (Int))
def p0:Pt p0X where
 own:=[.cell 3 1 (.pair (.int .i64) (.sl (.int .u64))),.reg 10 (.int .u8)]
 t:=⟨[(2,.c (.ptr 1 0)),(8,.c (.ptr 2 0)),(9,.c (.ptr 3 0)),(10,.c (.sl 5 0 1)),(36,.c (.arr (.sl (.int .u8)))),(37,.c (.it .i64)),(38,.c (.it .i64))],[.arr (.int .u64) 0,.st [.it .i64,.it .u64,.sl 0 0 1,.it .i64] 1 0,.st [.it .i64,.arr (.pair (.int .i64) (.sl (.int .u64)))] 1 0,.st [.it .i64,.sl 4 0 2] 1 0,.arr (.pair (.int .i64) (.sl (.int .u64))) 0,.arr (.int .u8) 0]⟩
 to:=λv=>⟨v.1.2.2.2.1.1,v.1.2.2.2.1.2,v.1.2.2.2.2.1,v.1.2.2.2.2.2.1,v.1.2.2.2.2.2.2.1,v.2.1,v.2.2.1.1,v.2.2.1.2.1,v.2.2.1.2.2.1.1,v.2.2.1.2.2.1.2,v.2.2.1.2.2.2.1,v.2.2.2.1.1,v.2.2.2.1.2.1,v.2.2.2.2.1.1,v.2.2.2.2.1.2.1.1,v.2.2.2.2.1.2.1.2,v.2.2.2.2.2.1,v.2.2.2.2.2.2.1⟩
 fr:=λx=>(((),((),((),((x.side_lo,x.side_len),(x.l,(x.n,(x.j,()))))))),(x.xs,((x.n2,(x.t,((x.ph_lo,x.ph_len),(x.c,())))),((x.ac,(x.ar,())),((x.sc,((x.sr_lo,x.sr_len),())),(x.rs,(x.side,())))))))
structure q0X where(side xs:List (Int))(n t:Int)(ph_lo ph_len:Nat)(c ac:Int)(ar:List ((Int)×List (Int)))(sc:Int)(sr:List ((Int)×List (Int)))
def q0:Pt q0X where
 own:=[]
 t:=⟨[(9,.c (.ptr 3 0)),(10,.c (.arr (.int .u8)))],[.arr (.int .u64) 0,.st [.it .i64,.it .u64,.sl 0 0 1,.it .i64] 1 0,.st [.it .i64,.arr (.pair (.int .i64) (.sl (.int .u64)))] 1 0,.st [.it .i64,.arr (.pair (.int .i64) (.sl (.int .u64)))] 1 0]⟩
 to:=λv=>⟨v.1.2.1,v.2.1,v.2.2.1.1,v.2.2.1.2.1,v.2.2.1.2.2.1.1,v.2.2.1.2.2.1.2,v.2.2.1.2.2.2.1,v.2.2.2.1.1,v.2.2.2.1.2.1,v.2.2.2.2.1.1,v.2.2.2.2.1.2.1⟩
 fr:=λx=>(((),(x.side,())),(x.xs,((x.n,(x.t,((x.ph_lo,x.ph_len),(x.c,())))),((x.ac,(x.ar,())),((x.sc,(x.sr,())),())))))
def s0(x:p0X):Option (p0X⊕q0X):=bif decide (x.j<x.n) then bif inR x.j x.l.length then bindO (iter s1 ⟨x.side_lo,x.side_len,x.l,x.n,x.j,x.j,x.l[x.j.toNat]?.getD [],(↑(List.length (x.l[x.j.toNat]?.getD [])):Int),0,x.xs,x.n2,x.t,x.ph_lo,x.ph_len,x.c,x.ac,x.ar,x.sc,x.sr_lo,x.sr_len,x.rs,x.side⟩) λy=>some (Sum.inl ⟨y.side_lo,y.side_len,y.l,y.n,IntKind.i64.wrap (y.j+1),y.xs,y.n2,y.t,y.ph_lo,y.ph_len,y.c,y.ac,y.ar,y.sc,y.sr_lo,y.sr_len,y.rs,y.side⟩) else none else bif leB (x.side_lo+x.side_len) x.side.length&&true&&(leB (x.sr_lo+x.sr_len) x.rs.length&&true&&true) then some (Sum.inr ⟨List.take x.side_len (List.drop x.side_lo x.side),x.xs,x.n2,x.t,x.ph_lo,x.ph_len,x.c,x.ac,x.ar,x.sc,List.take x.sr_len (List.drop x.sr_lo x.rs)⟩) else none
theorem QZ(x:p0X):exec E1 91 (C63.Q2 0) 1 (p0.R x) (p0.H x) (Qr 1 p0 (.exit 0) q0)=s0 x:=by kernel_rfl
def l0:QU:=Qs 1 p0 (.exit 0) q0 s0
theorem tl0:QI (C63.Q2 0) 1=[(1,C63.Q2 1)]:=by kernel_rfl
theorem Qa  :QH Try.prog 91 none 1 (C63.Q2 0) l0:=QS mixed (Q5 QB Q3 _) (by trivial) (λ_=>rfl) (λ_=>rfl) (tl0▸(QA.cons rfl X6 QA.nil)) QZ
def E0:Env:=⟨ty,QN cl,JH [(0,l0),(1,l1)],none⟩
def m(x:gX):Option fY:=bindO (bif leB (x.ph_lo+x.ph_len) x.xs.length&&true&&true then M72.m ⟨x.n,x.t,List.take x.ph_len (List.drop x.ph_lo x.xs),x.c⟩ else none) λy=>bif y !=0 then some (0,y,x.xs) else bindO (bif leB (x.ph_lo+x.ph_len) x.xs.length&&true&&true then M96.m ⟨x.n,x.t,List.take x.ph_len (List.drop x.ph_lo x.xs),x.c,x.l⟩ else none) λy=>bif y !=0 then some (0,y,x.xs) else bindO (M97o.m ⟨x.n,x.t,x.ph_lo,x.ph_len,x.c,x.xs⟩) λy=>bindO (iter s0 ⟨0,0,x.l,(↑x.l.length:Int),0,y.2.2,x.n,x.t,x.ph_lo,x.ph_len,x.c,y.1,y.2.1,y.1,0,0,[],[]⟩) λy=>bindO (M52.m ⟨y.side⟩) λy_1=>bindO (M22.m ⟨y.sc,y.sr,y_1.1,y_1.2.1⟩) λy_2=>bif y_2.2.2 !=0 then some (0,y_2.2.2,y.xs) else bif inR 0 y_2.2.1.length then some (y_2.2.1[0]?.getD 0,0,y.xs) else none
theorem QL(x:gX):exec E0 91 C63 0 (QP 0 (g.A x)) (g.H x) (finish 1 ty [.tmp 4,.tmp 5] f)=m x:=by kernel_rfl
theorem tl:QI C63 0=[(0,C63.Q2 0)]:=by kernel_rfl
theorem known:QM Try.prog 63 g f m:=
 Q8 mixed (Q5 QB Q3 _) s63 rfl rfl tl (QA.cons rfl Qa QA.nil) (λ_ _=>⟨rfl,rfl⟩) (λ_ _=>⟨rfl,rfl⟩) QL
def con:Con:=UP g [.arg 0 2] f m default
theorem con_ok:QR Try.prog 63 con:=XX known
end M63o
namespace M15
structure gX where(rn rt:Int)(rph:List (Int))(rc rs rl:Int)(cells:List (List (Int)))
def g:Sg gX:=⟨[.agg [.it .i64,.it .u64,.arr (.int .u64),.it .i64,.it .u64,.it .i64],.c (.arr (.sl (.int .u8)))],[],λa b=>⟨a.1.1,a.1.2.1,a.1.2.2.1,a.1.2.2.2.1,a.1.2.2.2.2.1,a.1.2.2.2.2.2.1,a.2.1⟩,λx=>((x.rn,(x.rt,(x.rph,(x.rc,(x.rs,(x.rl,())))))),(x.cells,())),λx=>()⟩
abbrev fY:=Bool
def f:Ft fY:=⟨none,.c (.bo),[],λa b=>(a),λy=>y,λy=>()⟩
def cl:List (FuncId×Con):=[(59,M59.con),(68,M68.con),(58,M58.con),(69,M69.con),(70,M70.con),(55,M55.con),(61,M61o.con),(65,M65o.con),(63,M63o.con),(71,M71.con),(72,M72r.con)]
theorem Q3:QF Try.prog cl:=⟨M59.con_ok,M68.con_ok,M58.con_ok,M69.con_ok,M70.con_ok,M55.con_ok,M61o.con_ok,M65o.con_ok,M63o.con_ok,M71.con_ok,M72r.con_ok,trivial⟩
def E3:Env:=⟨ty,QN cl,λ_=>none,none⟩
structure p2X where(cells:List (List (Int)))(check valid step expand enc period:Int)(bad:Bool)(all_lo all_len:Nat)(j:Int)(row_lo row_len:Nat)(i rn rt:Int)(rph:List (Int))(rc rs rl ln lt:Int)(pc:List (Int))(dn dt:Int)(dph_lo dph_len:Nat)(dc:Int)(all:List (List (Int)))(row:List (Int))
def p2:Pt p2X where
 own:=[.reg 17 (.int .u8)]
 t:=⟨[(1,.c (.arr (.sl (.int .u8)))),(2,.c (.ptr 0 0)),(5,.c (.ptr 1 0)),(6,.c (.ptr 3 0)),(7,.c (.it .i64)),(8,.c (.it .i64)),(10,.c (.it .i64)),(11,.c (.it .i64)),(12,.c (.it .i64)),(13,.c (.it .i64)),(15,.c (.bo)),(14,.c (.sl 4 0 1)),(16,.c (.it .i64)),(17,.c (.sl 5 0 1)),(18,.c (.it .i64))],[.st [.it .i64,.it .u64,.arr (.int .u64),.it .i64,.it .u64,.it .i64] 1 0,.st [.it .i64,.it .u64] 1 0,.arr (.int .u64) 0,.st [.it .i64,.it .u64,.sl 2 0 1,.it .i64] 1 0,.arr (.sl (.int .u8)) 0,.arr (.int .u8) 0]⟩
 to:=λv=>⟨v.1.1,v.1.2.2.2.2.1,v.1.2.2.2.2.2.1,v.1.2.2.2.2.2.2.1,v.1.2.2.2.2.2.2.2.1,v.1.2.2.2.2.2.2.2.2.1,v.1.2.2.2.2.2.2.2.2.2.1,v.1.2.2.2.2.2.2.2.2.2.2.1,v.1.2.2.2.2.2.2.2.2.2.2.2.1.1,v.1.2.2.2.2.2.2.2.2.2.2.2.1.2,v.1.2.2.2.2.2.2.2.2.2.2.2.2.1,v.1.2.2.2.2.2.2.2.2.2.2.2.2.2.1.1,v.1.2.2.2.2.2.2.2.2.2.2.2.2.2.1.2,v.1.2.2.2.2.2.2.2.2.2.2.2.2.2.2.1,v.2.1.1,v.2.1.2.1,v.2.1.2.2.1,v.2.1.2.2.2.1,v.2.1.2.2.2.2.1,v.2.1.2.2.2.2.2.1,v.2.2.1.1,v.2.2.1.2.1,v.2.2.2.1,v.2.2.2.2.1.1,v.2.2.2.2.1.2.1,v.2.2.2.2.1.2.2.1.1,v.2.2.2.2.1.2.2.1.2,v.2.2.2.2.1.2.2.2.1,v.2.2.2.2.2.1,v.2.2.2.2.2.2.1⟩
 fr:=λx=>((x.cells,((),((),((),(x.check,(x.valid,(x.step,(x.expand,(x.enc,(x.period,(x.bad,((x.all_lo,x.all_len),(x.j,((x.row_lo,x.row_len),(x.i,()))))))))))))))),((x.rn,(x.rt,(x.rph,(x.rc,(x.rs,(x.rl,())))))),((x.ln,(x.lt,())),(x.pc,((x.dn,(x.dt,((x.dph_lo,x.dph_len),(x.dc,())))),(x.all,(x.row,())))))))
structure q2X where(cells:List (List (Int)))(check valid step expand enc period:Int)(bad:Bool)(all_lo all_len:Nat)(j:Int)(row:List (Int))(rn rt:Int)(rph:List (Int))(rc rs rl ln lt:Int)(pc:List (Int))(dn dt:Int)(dph_lo dph_len:Nat)(dc:Int)(all:List (List (Int)))
def q2:Pt q2X where
 own:=[]
 t:=⟨[(1,.c (.arr (.sl (.int .u8)))),(2,.c (.ptr 0 0)),(5,.c (.ptr 1 0)),(6,.c (.ptr 3 0)),(7,.c (.it .i64)),(8,.c (.it .i64)),(10,.c (.it .i64)),(11,.c (.it .i64)),(12,.c (.it .i64)),(13,.c (.it .i64)),(15,.c (.bo)),(14,.c (.sl 4 0 1)),(16,.c (.it .i64)),(17,.c (.arr (.int .u8)))],[.st [.it .i64,.it .u64,.arr (.int .u64),.it .i64,.it .u64,.it .i64] 1 0,.st [.it .i64,.it .u64] 1 0,.arr (.int .u64) 0,.st [.it .i64,.it .u64,.sl 2 0 1,.it .i64] 1 0,.arr (.sl (.int .u8)) 0]⟩
 to:=λv=>⟨v.1.1,v.1.2.2.2.2.1,v.1.2.2.2.2.2.1,v.1.2.2.2.2.2.2.1,v.1.2.2.2.2.2.2.2.1,v.1.2.2.2.2.2.2.2.2.1,v.1.2.2.2.2.2.2.2.2.2.1,v.1.2.2.2.2.2.2.2.2.2.2.1,v.1.2.2.2.2.2.2.2.2.2.2.2.1.1,v.1.2.2.2.2.2.2.2.2.2.2.2.1.2,v.1.2.2.2.2.2.2.2.2.2.2.2.2.1,v.1.2.2.2.2.2.2.2.2.2.2.2.2.2.1,v.2.1.1,v.2.1.2.1,v.2.1.2.2.1,v.2.1.2.2.2.1,v.2.1.2.2.2.2.1,v.2.1.2.2.2.2.2.1,v.2.2.1.1,v.2.2.1.2.1,v.2.2.2.1,v.2.2.2.2.1.1,v.2.2.2.2.1.2.1,v.2.2.2.2.1.2.2.1.1,v.2.2.2.2.1.2.2.1.2,v.2.2.2.2.1.2.2.2.1,v.2.2.2.2.2.1⟩
 fr:=λx=>((x.cells,((),((),((),(x.check,(x.valid,(x.step,(x.expand,(x.enc,(x.period,(x.bad,((x.all_lo,x.all_len),(x.j,(x.row,())))))))))))))),((x.rn,(x.rt,(x.rph,(x.rc,(x.rs,(x.rl,())))))),((x.ln,(x.lt,())),(x.pc,((x.dn,(x.dt,((x.dph_lo,x.dph_len),(x.dc,())))),(x.all,()))))))
def s2(x:p2X):Option (p2X⊕q2X):=bif inR x.j x.cells.length then bif decide (x.i<(↑(List.length (x.cells[x.j.toNat]?.getD [])):Int)) then bif inR x.j x.cells.length then bif inR x.i (List.length (x.cells[x.j.toNat]?.getD [])) then bif eqN x.row_lo 0&&eqN x.row.length x.row_len&&Ql (x.row_len+1) 1 then bif inR x.j x.cells.length||!!x.bad then bif inR x.i (List.length (x.cells[x.j.toNat]?.getD []))||!!x.bad then some (Sum.inl ⟨x.cells,x.check,x.valid,x.step,x.expand,x.enc,x.period,bif x.bad then true else decide ((x.cells[x.j.toNat]?.getD [])[x.i.toNat]?.getD 0>2),x.all_lo,x.all_len,x.j,0,x.row_len+1,IntKind.i64.wrap (x.i+1),x.rn,x.rt,x.rph,x.rc,x.rs,x.rl,x.ln,x.lt,x.pc,x.dn,x.dt,x.dph_lo,x.dph_len,x.dc,x.all,x.row++[(x.cells[x.j.toNat]?.getD [])[x.i.toNat]?.getD 0]⟩) else none else none else none else none else none else bif leB (x.row_lo+x.row_len) x.row.length&&true&&true then some (Sum.inr ⟨x.cells,x.check,x.valid,x.step,x.expand,x.enc,x.period,x.bad,x.all_lo,x.all_len,x.j,List.take x.row_len (List.drop x.row_lo x.row),x.rn,x.rt,x.rph,x.rc,x.rs,x.rl,x.ln,x.lt,x.pc,x.dn,x.dt,x.dph_lo,x.dph_len,x.dc,x.all⟩) else none else none
theorem VI(x:p2X):exec E3 418 (C15.Q2 2) 3 (p2.R x) (p2.H x) (Qr 0 p2 (.exit 5) q2)=s2 x:=by kernel_rfl
def l2:QU:=Qs 0 p2 (.exit 5) q2 s2
theorem tl2:QI (C15.Q2 2) 3=[]:=by kernel_rfl
theorem Vi  :QH Try.prog 418 none 0 (C15.Q2 2) l2:=QS mixed (Q5 QB Q3 _) (by trivial) (λ_=>rfl) (λ_=>rfl) (tl2▸QA.nil) VI
def E2:Env:=⟨ty,QN cl,JH [(2,l2)],none⟩
structure p1X where(cells:List (List (Int)))(check valid step expand enc period:Int)(bad:Bool)(all_lo all_len:Nat)(j rn rt:Int)(rph:List (Int))(rc rs rl ln lt:Int)(pc:List (Int))(dn dt:Int)(dph_lo dph_len:Nat)(dc:Int)(all:List (List (Int)))
def p1:Pt p1X where
 own:=[.reg 14 (.sl (.int .u8))]
 t:=⟨[(1,.c (.arr (.sl (.int .u8)))),(2,.c (.ptr 0 0)),(5,.c (.ptr 1 0)),(6,.c (.ptr 3 0)),(7,.c (.it .i64)),(8,.c (.it .i64)),(10,.c (.it .i64)),(11,.c (.it .i64)),(12,.c (.it .i64)),(13,.c (.it .i64)),(15,.c (.bo)),(14,.c (.sl 4 0 1)),(16,.c (.it .i64))],[.st [.it .i64,.it .u64,.arr (.int .u64),.it .i64,.it .u64,.it .i64] 1 0,.st [.it .i64,.it .u64] 1 0,.arr (.int .u64) 0,.st [.it .i64,.it .u64,.sl 2 0 1,.it .i64] 1 0,.arr (.sl (.int .u8)) 0]⟩
 to:=λv=>⟨v.1.1,v.1.2.2.2.2.1,v.1.2.2.2.2.2.1,v.1.2.2.2.2.2.2.1,v.1.2.2.2.2.2.2.2.1,v.1.2.2.2.2.2.2.2.2.1,v.1.2.2.2.2.2.2.2.2.2.1,v.1.2.2.2.2.2.2.2.2.2.2.1,v.1.2.2.2.2.2.2.2.2.2.2.2.1.1,v.1.2.2.2.2.2.2.2.2.2.2.2.1.2,v.1.2.2.2.2.2.2.2.2.2.2.2.2.1,v.2.1.1,v.2.1.2.1,v.2.1.2.2.1,v.2.1.2.2.2.1,v.2.1.2.2.2.2.1,v.2.1.2.2.2.2.2.1,v.2.2.1.1,v.2.2.1.2.1,v.2.2.2.1,v.2.2.2.2.1.1,v.2.2.2.2.1.2.1,v.2.2.2.2.1.2.2.1.1,v.2.2.2.2.1.2.2.1.2,v.2.2.2.2.1.2.2.2.1,v.2.2.2.2.2.1⟩
 fr:=λx=>((x.cells,((),((),((),(x.check,(x.valid,(x.step,(x.expand,(x.enc,(x.period,(x.bad,((x.all_lo,x.all_len),(x.j,()))))))))))))),((x.rn,(x.rt,(x.rph,(x.rc,(x.rs,(x.rl,())))))),((x.ln,(x.lt,())),(x.pc,((x.dn,(x.dt,((x.dph_lo,x.dph_len),(x.dc,())))),(x.all,()))))))
structure q1X where(cells:List (List (Int)))(check valid step expand enc period:Int)(bad:Bool)(all:List (List (Int)))(rn rt:Int)(rph:List (Int))(rc rs rl ln lt:Int)(pc:List (Int))(dn dt:Int)(dph_lo dph_len:Nat)(dc:Int)
def q1:Pt q1X where
 own:=[]
 t:=⟨[(1,.c (.arr (.sl (.int .u8)))),(2,.c (.ptr 0 0)),(5,.c (.ptr 1 0)),(6,.c (.ptr 3 0)),(7,.c (.it .i64)),(8,.c (.it .i64)),(10,.c (.it .i64)),(11,.c (.it .i64)),(12,.c (.it .i64)),(13,.c (.it .i64)),(15,.c (.bo)),(14,.c (.arr (.sl (.int .u8))))],[.st [.it .i64,.it .u64,.arr (.int .u64),.it .i64,.it .u64,.it .i64] 1 0,.st [.it .i64,.it .u64] 1 0,.arr (.int .u64) 0,.st [.it .i64,.it .u64,.sl 2 0 1,.it .i64] 1 0]⟩
 to:=λv=>⟨v.1.1,v.1.2.2.2.2.1,v.1.2.2.2.2.2.1,v.1.2.2.2.2.2.2.1,v.1.2.2.2.2.2.2.2.1,v.1.2.2.2.2.2.2.2.2.1,v.1.2.2.2.2.2.2.2.2.2.1,v.1.2.2.2.2.2.2.2.2.2.2.1,v.1.2.2.2.2.2.2.2.2.2.2.2.1,v.2.1.1,v.2.1.2.1,v.2.1.2.2.1,v.2.1.2.2.2.1,v.2.1.2.2.2.2.1,v.2.1.2.2.2.2.2.1,v.2.2.1.1,v.2.2.1.2.1,v.2.2.2.1,v.2.2.2.2.1.1,v.2.2.2.2.1.2.1,v.2.2.2.2.1.2.2.1.1,v.2.2.2.2.1.2.2.1.2,v.2.2.2.2.1.2.2.2.1⟩
 fr:=λx=>((x.cells,((),((),((),(x.check,(x.valid,(x.step,(x.expand,(x.enc,(x.period,(x.bad,(x.all,())))))))))))),((x.rn,(x.rt,(x.rph,(x.rc,(x.rs,(x.rl,())))))),((x.ln,(x.lt,())),(x.pc,((x.dn,(x.dt,((x.dph_lo,x.dph_len),(x.dc,())))),())))))
structure z1X where(r:Bool)
def z1:Pt z1X where
 own:=[]
 t:=⟨[(4,.c (.bo))],[]⟩
 to:=λv=>⟨v.1.1⟩
 fr:=λx=>((x.r,()),())
def s1(x:p1X):Option (p1X⊕(q1X⊕z1X)):=bif decide (x.j<(↑x.cells.length:Int)) then bif inR x.j x.cells.length then bif decide ((↑(List.length (x.cells[x.j.toNat]?.getD [])):Int)>50) then bindO (M59.m PUnit.unit) λy=>some (Sum.inr (Sum.inr ⟨y⟩)) else bindO (iter s2 ⟨x.cells,x.check,x.valid,x.step,x.expand,x.enc,x.period,x.bad,x.all_lo,x.all_len,x.j,0,0,0,x.rn,x.rt,x.rph,x.rc,x.rs,x.rl,x.ln,x.lt,x.pc,x.dn,x.dt,x.dph_lo,x.dph_len,x.dc,x.all,[]⟩) λy=>bif eqN y.all_lo 0&&eqN y.all.length y.all_len&&Ql (y.all_len+1) 24 then some (Sum.inl ⟨y.cells,y.check,y.valid,y.step,y.expand,bif bif y.enc==0 then (↑y.row.length:Int) !=y.rc else false then 8 else y.enc,y.period,y.bad,0,y.all_len+1,IntKind.i64.wrap (y.j+1),y.rn,y.rt,y.rph,y.rc,y.rs,y.rl,y.ln,y.lt,y.pc,y.dn,y.dt,y.dph_lo,y.dph_len,y.dc,y.all++[y.row]⟩) else none else none else bif leB (x.all_lo+x.all_len) x.all.length&&true&&true then some (Sum.inr (Sum.inl ⟨x.cells,x.check,x.valid,x.step,x.expand,x.enc,x.period,x.bad,List.take x.all_len (List.drop x.all_lo x.all),x.rn,x.rt,x.rph,x.rc,x.rs,x.rl,x.ln,x.lt,x.pc,x.dn,x.dt,x.dph_lo,x.dph_len,x.dc⟩)) else none
theorem X3(x:p1X):exec E2 418 (C15.Q2 1) 2 (p1.R x) (p1.H x) (JF 0 p1 (.exit 3) q1 .ret z1)=s1 x:=by kernel_rfl
def l1:QU:=JG 0 p1 (.exit 3) q1 .ret z1 s1
theorem tl1:QI (C15.Q2 1) 2=[(2,C15.Q2 2)]:=by kernel_rfl
theorem X6  :QH Try.prog 418 none 0 (C15.Q2 1) l1:=Qi mixed (Q5 QB Q3 _) (by trivial) (by trivial) (λ_=>rfl) (λ_=>rfl) (λ_=>rfl) (tl1▸(QA.cons rfl Vi QA.nil)) X3
def E1:Env:=⟨ty,QN cl,JH [(1,l1),(2,l2)],none⟩
structure p0X where(cells:List (List (Int)))(check valid i rn rt:Int)(rph:List (Int))(rc rs rl ln lt:Int)(pc:List (Int))(dn dt:Int)(dph_lo dph_len:Nat)(dc:Int)
def p0:Pt p0X where
 own:=[]
 t:=⟨[(1,.c (.arr (.sl (.int .u8)))),(2,.c (.ptr 0 0)),(5,.c (.ptr 1 0)),(6,.c (.ptr 3 0)),(7,.c (.it .i64)),(8,.c (.it .i64)),(9,.c (.it .i64))],[.st [.it .i64,.it .u64,.arr (.int .u64),.it .i64,.it .u64,.it .i64] 1 0,.st [.it .i64,.it .u64] 1 0,.arr (.int .u64) 0,.st [.it .i64,.it .u64,.sl 2 0 1,.it .i64] 1 0]⟩
 to:=λv=>⟨v.1.1,v.1.2.2.2.2.1,v.1.2.2.2.2.2.1,v.1.2.2.2.2.2.2.1,v.2.1.1,v.2.1.2.1,v.2.1.2.2.1,v.2.1.2.2.2.1,v.2.1.2.2.2.2.1,v.2.1.2.2.2.2.2.1,v.2.2.1.1,v.2.2.1.2.1,v.2.2.2.1,v.2.2.2.2.1.1,v.2.2.2.2.1.2.1,v.2.2.2.2.1.2.2.1.1,v.2.2.2.2.1.2.2.1.2,v.2.2.2.2.1.2.2.2.1⟩
 fr:=λx=>((x.cells,((),((),((),(x.check,(x.valid,(x.i,()))))))),((x.rn,(x.rt,(x.rph,(x.rc,(x.rs,(x.rl,())))))),((x.ln,(x.lt,())),(x.pc,((x.dn,(x.dt,((x.dph_lo,x.dph_len),(x.dc,())))),())))))
structure q0X where(cells:List (List (Int)))(check valid rn rt:Int)(rph:List (Int))(rc rs rl ln lt:Int)(pc:List (Int))(dn dt:Int)(dph_lo dph_len:Nat)(dc:Int)
def q0:Pt q0X where
 own:=[]
 t:=⟨[(1,.c (.arr (.sl (.int .u8)))),(2,.c (.ptr 0 0)),(5,.c (.ptr 1 0)),(6,.c (.ptr 3 0)),(7,.c (.it .i64)),(8,.c (.it .i64))],[.st [.it .i64,.it .u64,.arr (.int .u64),.it .i64,.it .u64,.it .i64] 1 0,.st [.it .i64,.it .u64] 1 0,.arr (.int .u64) 0,.st [.it .i64,.it .u64,.sl 2 0 1,.it .i64] 1 0]⟩
 to:=λv=>⟨v.1.1,v.1.2.2.2.2.1,v.1.2.2.2.2.2.1,v.2.1.1,v.2.1.2.1,v.2.1.2.2.1,v.2.1.2.2.2.1,v.2.1.2.2.2.2.1,v.2.1.2.2.2.2.2.1,v.2.2.1.1,v.2.2.1.2.1,v.2.2.2.1,v.2.2.2.2.1.1,v.2.2.2.2.1.2.1,v.2.2.2.2.1.2.2.1.1,v.2.2.2.2.1.2.2.1.2,v.2.2.2.2.1.2.2.2.1⟩
 fr:=λx=>((x.cells,((),((),((),(x.check,(x.valid,())))))),((x.rn,(x.rt,(x.rph,(x.rc,(x.rs,(x.rl,())))))),((x.ln,(x.lt,())),(x.pc,((x.dn,(x.dt,((x.dph_lo,x.dph_len),(x.dc,())))),())))))
def s0(x:p0X):Option (p0X⊕q0X):=bif bif decide (x.i<(↑x.rph.length:Int)) then x.valid==0 else false then bif inR x.i x.rph.length then bindO (M68.m ⟨x.rph[x.i.toNat]?.getD 0,x.rn⟩) λy=>some (Sum.inl ⟨x.cells,x.check,bif y then 1 else x.valid,IntKind.i64.wrap (x.i+1),x.rn,x.rt,x.rph,x.rc,x.rs,x.rl,x.ln,x.lt,x.pc,x.dn,x.dt,x.dph_lo,x.dph_len,x.dc⟩) else none else some (Sum.inr ⟨x.cells,x.check,x.valid,x.rn,x.rt,x.rph,x.rc,x.rs,x.rl,x.ln,x.lt,x.pc,x.dn,x.dt,x.dph_lo,x.dph_len,x.dc⟩)
theorem QZ(x:p0X):exec E1 418 (C15.Q2 0) 1 (p0.R x) (p0.H x) (Qr 0 p0 (.exit 1) q0)=s0 x:=by kernel_rfl
def l0:QU:=Qs 0 p0 (.exit 1) q0 s0
theorem tl0:QI (C15.Q2 0) 1=[]:=by kernel_rfl
theorem Qa  :QH Try.prog 418 none 0 (C15.Q2 0) l0:=QS mixed (Q5 QB Q3 _) (by trivial) (λ_=>rfl) (λ_=>rfl) (tl0▸QA.nil) QZ
def E0:Env:=⟨ty,QN cl,JH [(0,l0),(1,l1),(2,l2)],none⟩
def kB:q1X->Option Bool:=λy=>bindO (M58.m ⟨y.ln,y.lt,y.rs⟩) λy_3=>bindO (M69.m ⟨y.ln,y.lt,y.rs,3⟩) λy_4=>bindO (M70.m ⟨y.ln,y.lt⟩) λy_5=>bindO (M55.m ⟨y.ln,y.lt,y.rs,y.rl⟩) λy_6=>bindO (M61o.m ⟨y.dn,y.dt,y.dph_lo,y.dph_len,y.dc,y.rs,y.pc⟩) λy_7=>bindO (M65o.m ⟨y.dn,y.dt,y.dph_lo,y.dph_len,y.dc,y_7.2.2⟩) λy_8=>bindO (M63o.m ⟨y.dn,y.dt,y.dph_lo,y.dph_len,y.dc,y.all,y_8.2.2.2⟩) λy_9=>bindO (M71.m ⟨y.ln,y.lt⟩) λy_10=>bindO (bif !y_10 !=y.check then bif leB (y.dph_lo+y.dph_len) y_9.2.2.length&&true&&true then M72.m ⟨y.dn,y.dt,List.take y.dph_len (List.drop y.dph_lo y_9.2.2),y.dc⟩ else none else some (Int.ofNat 0)) λy_11=>bif bif bif bif bif bif bif bif bif y_10 !=y.check then true else y_11 !=y.valid then true else y_3.2 !=y.step then true else y_4.2 !=y.step then true else y_5.2.2 !=y.check then true else !bif y_6.2==y.period then true else bif y.period==0 then y_6.2==3 else false then true else y_7.2.1 !=y.expand then true else y_8.2.2.1 !=y.valid then true else !bif y_9.2.1==bif bif y.enc==0 then y.bad else false then 1 else y.enc then true else bif (bif bif y.enc==0 then y.bad else false then 1 else y.enc)==0 then y_9.2.1==9 else false then some false else bindO (bif bif bif bif bif bif bif y.step==0 then true else bif y_3.1==0 then y_4.1==0 else false then bif y.check==0 then true else (↑y_5.2.1.length:Int)==0 else false then bif y_6.2==0 then true else y_6.1==0 else false then bif y_7.2.1==0 then true else (↑y_7.1.length:Int)==0 else false then bif y_8.2.2.1==0 then true else (↑y_8.2.1.length:Int)==0 else false then bif y_9.2.1==0 then true else y_9.1==0 else false then M59.m PUnit.unit else some false) λy_12=>some (bif bif bif bif bif bif bif y.step==0 then true else bif y_3.1==0 then y_4.1==0 else false then bif y.check==0 then true else (↑y_5.2.1.length:Int)==0 else false then bif y_6.2==0 then true else y_6.1==0 else false then bif y_7.2.1==0 then true else (↑y_7.1.length:Int)==0 else false then bif y_8.2.2.1==0 then true else (↑y_8.2.1.length:Int)==0 else false then bif y_9.2.1==0 then true else y_9.1==0 else false then y_12 else false)
def kA:q0X->Option Bool:=λy=>bif nz (↑y.rph.length:Int)||!bif (bif bif y.valid==0 then decide (y.rc<0) else false then 1 else y.valid)==0 then decide ((↑y.rph.length:Int)>0) else false then bindO (bif y.check==0 then M68.m ⟨y.rs,y.rn⟩ else some false) λy_1=>bindO (bif (bif bif bif (bif bif y.valid==0 then decide (y.rc<0) else false then 1 else y.valid)==0 then decide ((↑y.rph.length:Int)>0) else false then decide (y.rc>IntKind.i64.wrap (Int.tdiv 4096 (↑y.rph.length:Int))) else false then 3 else bif bif y.valid==0 then decide (y.rc<0) else false then 1 else y.valid)==0 then M68.m ⟨y.rs,y.rn⟩ else some false) λy_2=>bindO (iter s1 ⟨y.cells,y.check,bif bif bif (bif bif y.valid==0 then decide (y.rc<0) else false then 1 else y.valid)==0 then decide ((↑y.rph.length:Int)>0) else false then decide (y.rc>IntKind.i64.wrap (Int.tdiv 4096 (↑y.rph.length:Int))) else false then 3 else bif bif y.valid==0 then decide (y.rc<0) else false then 1 else y.valid,bif bif y.check==0 then y_1 else false then 1 else y.check,bif bif (bif bif bif (bif bif y.valid==0 then decide (y.rc<0) else false then 1 else y.valid)==0 then decide ((↑y.rph.length:Int)>0) else false then decide (y.rc>IntKind.i64.wrap (Int.tdiv 4096 (↑y.rph.length:Int))) else false then 3 else bif bif y.valid==0 then decide (y.rc<0) else false then 1 else y.valid)==0 then y_2 else false then 1 else bif bif bif (bif bif y.valid==0 then decide (y.rc<0) else false then 1 else y.valid)==0 then decide ((↑y.rph.length:Int)>0) else false then decide (y.rc>IntKind.i64.wrap (Int.tdiv 4096 (↑y.rph.length:Int))) else false then 3 else bif bif y.valid==0 then decide (y.rc<0) else false then 1 else y.valid,bif bif (bif bif bif (bif bif y.valid==0 then decide (y.rc<0) else false then 1 else y.valid)==0 then decide ((↑y.rph.length:Int)>0) else false then decide (y.rc>IntKind.i64.wrap (Int.tdiv 4096 (↑y.rph.length:Int))) else false then 3 else bif bif y.valid==0 then decide (y.rc<0) else false then 1 else y.valid)==0 then (↑y.cells.length:Int) !=(↑y.rph.length:Int) else false then 8 else bif bif bif (bif bif y.valid==0 then decide (y.rc<0) else false then 1 else y.valid)==0 then decide ((↑y.rph.length:Int)>0) else false then decide (y.rc>IntKind.i64.wrap (Int.tdiv 4096 (↑y.rph.length:Int))) else false then 3 else bif bif y.valid==0 then decide (y.rc<0) else false then 1 else y.valid,bif bif (bif bif y.check==0 then y_1 else false then 1 else y.check)==0 then decide (y.rl<0) else false then 1 else bif bif y.check==0 then y_1 else false then 1 else y.check,false,0,0,0,y.rn,y.rt,y.rph,y.rc,y.rs,y.rl,y.ln,y.lt,y.pc,y.dn,y.dt,y.dph_lo,y.dph_len,y.dc,[]⟩) λs=>sumC s kB λz=>some z.r else none
def kC(x:gX)(check valid:Int):Option Bool:=bindO (iter s0 ⟨x.cells,check,valid,0,x.rn,x.rt,x.rph,x.rc,x.rs,x.rl,x.rn,x.rt,x.rph,x.rn,x.rt,0,x.rph.length,x.rc⟩) kA
def chB(x:gX)(y:Bool):Int:=bif bif y then true else x.rt.fdiv (2^min (IntKind.i64.wrap (x.rn - 1)).toNat 64)==0 then 1 else 0
def m(x:gX):Option fY:=bif bif bif bif decide ((↑x.rph.length:Int)>70) then true else decide ((↑x.cells.length:Int)>8) then true else bif decide (x.rc>40) then decide (x.rc<=4096) else false then true else bif decide (x.rl>300) then decide (x.rl<=1048576) else false then bindO (M59.m PUnit.unit) λy=>some y else bif Ql x.rph.length 8 then bif decide (x.rn<1) then kC x 1 1 else bif decide (x.rn>64) then kC x 3 3 else bindO (M68.m ⟨x.rt,x.rn⟩) λy=>bif decide (0<=IntKind.i64.wrap (x.rn - 1))||!!y then kC x (chB x y) (bif bif chB x y==0 then decide ((↑x.rph.length:Int)>64) else false then 3 else chB x y) else none else none
theorem QL(x:gX):exec E0 418 C15 0 (QP 0 (g.A x)) (g.H x) (finish 0 ty [.tmp 4] f)=m x:=by kernel_rfl
theorem tl:QI C15 0=[(0,C15.Q2 0),(1,C15.Q2 1)]:=by kernel_rfl
theorem known:QM Try.prog 15 g f m:=
 Q8 mixed (Q5 QB Q3 _) s15 rfl rfl tl (QA.cons rfl Qa (QA.cons rfl X6 QA.nil)) (λ_ _=>⟨rfl,rfl⟩) (λ_ _=>⟨rfl,rfl⟩) QL
end M15
