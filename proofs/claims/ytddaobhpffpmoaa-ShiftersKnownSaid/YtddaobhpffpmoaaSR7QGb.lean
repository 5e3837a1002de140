/- A part of the proof. -/
import Derived.Test.YtddaobhpffpmoaaSR7QGa
set_option linter.all false
set_option maxRecDepth 100000
noncomputable section
namespace Go.Proofs.Ytddaobhpffpmoaa
open Go.Abs
namespace M87
structure gX where(c:Int)(rows:List ((Int)×List (Int)))
def g:Sg gX:=⟨[.agg [.it .i64,.arr (.pair (.int .i64) (.sl (.int .u64)))]],[],λa b=>⟨a.1.1,a.1.2.1⟩,λx=>((x.c,(x.rows,())),()),λx=>()⟩
abbrev fY:=Int×(List ((Int)×List (Int)))
def f:Ft fY:=⟨none,.agg [.it .i64,.arr (.pair (.int .i64) (.sl (.int .u64)))],[],λa b=>(a.1,a.2.1),λy=>(y.1,(y.2,())),λy=>()⟩
def cl:List (FuncId×Con):=[(73,M73.con),(74,M74.con),(75,M75.con)]
theorem Q3:QF Try.prog cl:=⟨M73.con_ok,M74.con_ok,M75.con_ok,trivial⟩
def E2:Env:=⟨ty,QN cl,λ_=>none,none⟩
structure p1X where(n i k:Int)(l:List ((Int)×List (Int)))(n2 i2 c:Int)(rows out:List ((Int)×List (Int)))(on:Int)(ow_lo ow_len ow_cap:Nat)(out_r:List ((Int)×List (Int)))(oc:Int)(or__lo or__len or__cap:Nat)(ws:List (Int))
def p1:Pt p1X where
 own:=[]
 t:=⟨[(1,.c (.ptr 0 0)),(2,.c (.ptr 1 0)),(3,.c (.ptr 3 0)),(16,.c (.it .i64)),(17,.c (.it .i64)),(4,.c (.it .i64)),(28,.c (.arr (.pair (.int .i64) (.sl (.int .u64))))),(29,.c (.it .i64)),(30,.c (.it .i64))],[.st [.it .i64,.arr (.pair (.int .i64) (.sl (.int .u64)))] 1 0,.st [.junk,.junk] 1 0,.opn (.pair (.int .i64) (.sl (.int .u64))) [.it .i64,.slc 4 0 1] 0,.st [.it .i64,.slc 2 0 2] 1 0,.arr (.int .u64) 0]⟩
 to:=λv=>⟨v.1.2.2.2.1,v.1.2.2.2.2.1,v.1.2.2.2.2.2.1,v.1.2.2.2.2.2.2.1,v.1.2.2.2.2.2.2.2.1,v.1.2.2.2.2.2.2.2.2.1,v.2.1.1,v.2.1.2.1,v.2.2.2.1.1,v.2.2.2.1.2.1.1,v.2.2.2.1.2.1.2.1.1,v.2.2.2.1.2.1.2.1.2.1,v.2.2.2.1.2.1.2.1.2.2,v.2.2.2.1.2.2,v.2.2.2.2.1.1,v.2.2.2.2.1.2.1.1,v.2.2.2.2.1.2.1.2.1,v.2.2.2.2.1.2.1.2.2,v.2.2.2.2.2.1⟩
 fr:=λx=>(((),((),((),(x.n,(x.i,(x.k,(x.l,(x.n2,(x.i2,()))))))))),((x.c,(x.rows,())),(((),((),())),((x.out,(x.on,((x.ow_lo,x.ow_len,x.ow_cap),())),x.out_r),((x.oc,((x.or__lo,x.or__len,x.or__cap),())),(x.ws,()))))))
structure q1X where(n i c:Int)(rows out:List ((Int)×List (Int)))(on:Int)(ow_lo ow_len ow_cap:Nat)(out_r:List ((Int)×List (Int)))(oc:Int)(or__lo or__len or__cap:Nat)(ws:List (Int))
def q1:Pt q1X where
 own:=[]
 t:=⟨[(1,.c (.ptr 0 0)),(2,.c (.ptr 1 0)),(3,.c (.ptr 3 0)),(16,.c (.it .i64)),(17,.c (.it .i64))],[.st [.it .i64,.arr (.pair (.int .i64) (.sl (.int .u64)))] 1 0,.st [.junk,.junk] 1 0,.opn (.pair (.int .i64) (.sl (.int .u64))) [.it .i64,.slc 4 0 1] 0,.st [.it .i64,.slc 2 0 2] 1 0,.arr (.int .u64) 0]⟩
 to:=λv=>⟨v.1.2.2.2.1,v.1.2.2.2.2.1,v.2.1.1,v.2.1.2.1,v.2.2.2.1.1,v.2.2.2.1.2.1.1,v.2.2.2.1.2.1.2.1.1,v.2.2.2.1.2.1.2.1.2.1,v.2.2.2.1.2.1.2.1.2.2,v.2.2.2.1.2.2,v.2.2.2.2.1.1,v.2.2.2.2.1.2.1.1,v.2.2.2.2.1.2.1.2.1,v.2.2.2.2.1.2.1.2.2,v.2.2.2.2.2.1⟩
 fr:=λx=>(((),((),((),(x.n,(x.i,()))))),((x.c,(x.rows,())),(((),((),())),((x.out,(x.on,((x.ow_lo,x.ow_len,x.ow_cap),())),x.out_r),((x.oc,((x.or__lo,x.or__len,x.or__cap),())),(x.ws,()))))))
def s1(x:p1X):Option (p1X⊕q1X):=bif decide (x.i2<x.n2) then bif inR x.i2 x.l.length then bindO (M74.m ⟨(x.l[x.i2.toNat]?.getD (0,[])).1,(x.l[x.i2.toNat]?.getD (0,[])).2,x.k⟩) λy=>bif y then bif inR x.k x.or__len then bif eqN (x.or__lo+x.k.toNat) x.out.length then bindO (M75.m ⟨x.on,x.ow_lo,x.ow_len,x.ow_cap,x.i2,x.ws⟩) λy=>some (Sum.inl ⟨x.n,x.i,x.k,x.l,x.n2,IntKind.i64.wrap (x.i2+1),x.c,x.rows,x.out,x.on,x.ow_lo,x.ow_len,x.ow_cap,x.out_r,x.oc,x.or__lo,x.or__len,x.or__cap,y⟩) else none else none else some (Sum.inl ⟨x.n,x.i,x.k,x.l,x.n2,IntKind.i64.wrap (x.i2+1),x.c,x.rows,x.out,x.on,x.ow_lo,x.ow_len,x.ow_cap,x.out_r,x.oc,x.or__lo,x.or__len,x.or__cap,x.ws⟩) else none else some (Sum.inr ⟨x.n,x.i,x.c,x.rows,x.out,x.on,x.ow_lo,x.ow_len,x.ow_cap,x.out_r,x.oc,x.or__lo,x.or__len,x.or__cap,x.ws⟩)
theorem X3(x:p1X):exec E2 48 (C87.Q2 1) 2 (p1.R x) (p1.H x) (Qr 0 p1 (.exit 2) q1)=s1 x:=by kernel_rfl
def l1:QU:=Qs 0 p1 (.exit 2) q1 s1
theorem tl1:QI (C87.Q2 1) 2=[]:=by kernel_rfl
theorem X6  :QH Try.prog 48 none 0 (C87.Q2 1) l1:=QS mixed (Q5 QB Q3 _) (by trivial) (λ_=>rfl) (λ_=>rfl) (tl1▸QA.nil) X3
def E1:Env:=⟨ty,QN cl,JH [(1,l1)],none⟩
structure p0X where(n i c:Int)(rows out:List ((Int)×List (Int)))(oc:Int)(or__lo or__len or__cap:Nat)
def p0:Pt p0X where
 own:=[]
 t:=⟨[(1,.c (.ptr 0 0)),(2,.c (.ptr 1 0)),(3,.c (.ptr 3 0)),(16,.c (.it .i64)),(17,.c (.it .i64))],[.st [.it .i64,.arr (.pair (.int .i64) (.sl (.int .u64)))] 1 0,.st [.junk,.junk] 1 0,.arr (.pair (.int .i64) (.sl (.int .u64))) 0,.st [.it .i64,.slc 2 0 2] 1 0]⟩
 to:=λv=>⟨v.1.2.2.2.1,v.1.2.2.2.2.1,v.2.1.1,v.2.1.2.1,v.2.2.2.1,v.2.2.2.2.1.1,v.2.2.2.2.1.2.1.1,v.2.2.2.2.1.2.1.2.1,v.2.2.2.2.1.2.1.2.2⟩
 fr:=λx=>(((),((),((),(x.n,(x.i,()))))),((x.c,(x.rows,())),(((),((),())),(x.out,((x.oc,((x.or__lo,x.or__len,x.or__cap),())),())))))
structure q0X where(c:Int)(rows out:List ((Int)×List (Int)))(oc:Int)(or__lo or__len or__cap:Nat)
def q0:Pt q0X where
 own:=[]
 t:=⟨[(2,.c (.ptr 1 0)),(3,.c (.ptr 3 0))],[.st [.it .i64,.arr (.pair (.int .i64) (.sl (.int .u64)))] 1 0,.st [.junk,.junk] 1 0,.arr (.pair (.int .i64) (.sl (.int .u64))) 0,.st [.it .i64,.slc 2 0 2] 1 0]⟩
 to:=λv=>⟨v.2.1.1,v.2.1.2.1,v.2.2.2.1,v.2.2.2.2.1.1,v.2.2.2.2.1.2.1.1,v.2.2.2.2.1.2.1.2.1,v.2.2.2.2.1.2.1.2.2⟩
 fr:=λx=>(((),((),())),((x.c,(x.rows,())),(((),((),())),(x.out,((x.oc,((x.or__lo,x.or__len,x.or__cap),())),())))))
def s0(x:p0X):Option (p0X⊕q0X):=bif decide (x.i<x.n) then bindO (M73.m ⟨x.oc⟩) λy=>bif inR x.i x.or__len then bif decide (x.or__lo+x.i.toNat<x.out.length) then bindO (iter s1 ⟨x.n,x.i,x.i,x.rows,(↑x.rows.length:Int),0,x.c,x.rows,List.take (x.or__lo+x.i.toNat) x.out,y.1,y.2.1,y.2.2.1,y.2.2.2.1,List.drop (x.or__lo+x.i.toNat+1) x.out,x.oc,x.or__lo,x.or__len,x.or__cap,y.2.2.2.2⟩) λy=>bif leB (y.ow_lo+y.ow_len) y.ws.length&&true&&true then some (Sum.inl ⟨y.n,IntKind.i64.wrap (y.i+1),y.c,y.rows,y.out++(y.on,List.take y.ow_len (List.drop y.ow_lo y.ws))::y.out_r,y.oc,y.or__lo,y.or__len,y.or__cap⟩) else none else none else none else some (Sum.inr ⟨x.c,x.rows,x.out,x.oc,x.or__lo,x.or__len,x.or__cap⟩)
theorem QZ(x:p0X):exec E1 48 (C87.Q2 0) 1 (p0.R x) (p0.H x) (Qr 0 p0 (.exit 0) q0)=s0 x:=by kernel_rfl
def l0:QU:=Qs 0 p0 (.exit 0) q0 s0
theorem tl0:QI (C87.Q2 0) 1=[(1,C87.Q2 1)]:=by kernel_rfl
theorem Qa  :QH Try.prog 48 none 0 (C87.Q2 0) l0:=QS mixed (Q5 QB Q3 _) (by trivial) (λ_=>rfl) (λ_=>rfl) (tl0▸(QA.cons rfl X6 QA.nil)) QZ
def E0:Env:=⟨ty,QN cl,JH [(0,l0),(1,l1)],none⟩
def m(x:gX):Option fY:=bif decide (0<=x.c)&&decide (x.c<=x.c)&&decide (x.c*(↑32:Int)<=281474976710656)&&decide (x.c<=9223372036854775807) then bindO (iter s0 ⟨(↑x.c.toNat:Int),0,x.c,x.rows,List.replicate x.c.toNat (0,[]),(↑x.rows.length:Int),0,x.c.toNat,x.c.toNat⟩) λy=>bif leB (y.or__lo+y.or__len) y.out.length&&true&&true&&true then some (y.oc,List.take y.or__len (List.drop y.or__lo y.out)) else none else none
theorem QL(x:gX):exec E0 48 C87 0 (QP 0 (g.A x)) (g.H x) (finish 0 ty [.cell 2 40] f)=m x:=by kernel_rfl
theorem tl:QI C87 0=[(0,C87.Q2 0)]:=by kernel_rfl
theorem known:QM Try.prog 87 g f m:=
 Q8 mixed (Q5 QB Q3 _) s87 rfl rfl tl (QA.cons rfl Qa QA.nil) (λ_ _=>⟨rfl,rfl⟩) (λ_ _=>⟨rfl,rfl⟩) QL
def con:Con:=J9 g f m default
theorem con_ok:QR Try.prog 87 con:=QG known (λ_=>rfl) rfl
end M87
namespace M40
structure gX where(c:Int)(rows:List ((Int)×List (Int)))
def g:Sg gX:=⟨[.agg [.it .i64,.arr (.pair (.int .i64) (.sl (.int .u64)))]],[],λa b=>⟨a.1.1,a.1.2.1⟩,λx=>((x.c,(x.rows,())),()),λx=>()⟩
abbrev fY:=Int×(List ((Int)×List (Int)))×Int
def f:Ft fY:=⟨none,.tup [.inr [.it .i64,.arr (.pair (.int .i64) (.sl (.int .u64)))],.inl (.it .i64)],[],λa b=>(a.1.1,a.1.2.1,a.2.1),λy=>((y.1,(y.2.1,())),(y.2.2,())),λy=>()⟩
def cl:List (FuncId×Con):=[(50,M50.con),(87,M87.con)]
theorem Q3:QF Try.prog cl:=⟨M50.con_ok,M87.con_ok,trivial⟩
def E0:Env:=⟨ty,QN cl,λ_=>none,none⟩
def m(x:gX):Option fY:=bindO (M50.m ⟨x.c,x.rows⟩) λy=>bif y !=0 then some (0,[],y) else bindO (M87.m ⟨x.c,x.rows⟩) λy=>some (y.1,y.2,0)
theorem QL(x:gX):exec E0 13 C40 0 (QP 0 (g.A x)) (g.H x) (finish 0 ty [.cell 2 40,.tmp 3] f)=m x:=by kernel_rfl
theorem tl:QI C40 0=[]:=by kernel_rfl
theorem known:QM Try.prog 40 g f m:=
 Q8 mixed (Q5 QB Q3 _) s40 rfl rfl tl QA.nil (λ_ _=>⟨rfl,rfl⟩) (λ_ _=>⟨rfl,rfl⟩) QL
def con:Con:=J9 g f m default
theorem con_ok:QR Try.prog 40 con:=QG known (λ_=>rfl) rfl
end M40
namespace M76o
structure gX where(c:Int)(rows:List ((Int)×List (Int)))(more_lo more_len more_cap:Nat)(m0:List ((Int)×List (Int)))
def g:Sg gX:=⟨[.agg [.it .i64,.arr (.pair (.int .i64) (.sl (.int .u64)))],.c (.slc 0 0 2)],[.arr (.pair (.int .i64) (.sl (.int .u64))) 0],λa b=>⟨a.1.1,a.1.2.1,a.2.1.1,a.2.1.2.1,a.2.1.2.2,b.1⟩,λx=>((x.c,(x.rows,())),((x.more_lo,x.more_len,x.more_cap),())),λx=>(x.m0,())⟩
abbrev fY:=(List ((Int)×List (Int)))×(List ((Int)×List (Int)))×(List ((Int)×List (Int)))×Nat×Nat×Nat×Nat×Nat×Nat×Nat×Nat×List (Int)
def f:Ft fY:=⟨some [0,2,3,4,5,1],.c (.ptr 3 0),[.arr (.pair (.int .i64) (.sl (.int .u64))) 0,.arr (.pair (.int .i64) (.sl (.int .u64))) 0,.arr (.pair (.int .i64) (.sl (.int .u64))) 0,.st [.slc 1 0 2,.slc 2 0 2,.sl 4 0 1] 1 0,.arr (.int .i64) 0],λa b=>(b.1,b.2.1,b.2.2.1,b.2.2.2.1.1.1,b.2.2.2.1.1.2.1,b.2.2.2.1.1.2.2,b.2.2.2.1.2.1.1,b.2.2.2.1.2.1.2.1,b.2.2.2.1.2.1.2.2,b.2.2.2.1.2.2.1.1,b.2.2.2.1.2.2.1.2,b.2.2.2.2.1),λy=>(),λy=>(y.1,(y.2.1,(y.2.2.1,(((y.2.2.2.1,y.2.2.2.2.1,y.2.2.2.2.2.1),((y.2.2.2.2.2.2.1,y.2.2.2.2.2.2.2.1,y.2.2.2.2.2.2.2.2.1),((y.2.2.2.2.2.2.2.2.2.1,y.2.2.2.2.2.2.2.2.2.2.1),()))),(y.2.2.2.2.2.2.2.2.2.2.2,())))))⟩
def cl:List (FuncId×Con):=[(74,M74.con),(101,M101.con),(102,M102.con)]
theorem Q3:QF Try.prog cl:=⟨M74.con_ok,M101.con_ok,M102.con_ok,trivial⟩
def E2:Env:=⟨ty,QN cl,λ_=>none,none⟩
structure p1X where(n k k1 top i:Int)(m0:List ((Int)×List (Int)))(c:Int)(rows rs ms:List ((Int)×List (Int)))(wr_lo wr_len wr_cap wm_lo wm_len wm_cap wp_lo wp_len:Nat)(ps:List (Int))
def p1:Pt p1X where
 own:=[.cell 4 2 (.int .i64)]
 t:=⟨[(5,.c (.ptr 4 0)),(32,.c (.it .i64)),(33,.c (.it .i64)),(6,.c (.it .i64)),(7,.c (.it .i64)),(8,.c (.it .i64))],[.arr (.pair (.int .i64) (.sl (.int .u64))) 0,.st [.it .i64,.arr (.pair (.int .i64) (.sl (.int .u64)))] 1 0,.arr (.pair (.int .i64) (.sl (.int .u64))) 0,.arr (.pair (.int .i64) (.sl (.int .u64))) 0,.st [.slc 2 0 2,.slc 3 0 2,.sl 5 0 1] 1 0,.arr (.int .i64) 0]⟩
 to:=λv=>⟨v.1.2.1,v.1.2.2.1,v.1.2.2.2.1,v.1.2.2.2.2.1,v.1.2.2.2.2.2.1,v.2.1,v.2.2.1.1,v.2.2.1.2.1,v.2.2.2.1,v.2.2.2.2.1,v.2.2.2.2.2.1.1.1,v.2.2.2.2.2.1.1.2.1,v.2.2.2.2.2.1.1.2.2,v.2.2.2.2.2.1.2.1.1,v.2.2.2.2.2.1.2.1.2.1,v.2.2.2.2.2.1.2.1.2.2,v.2.2.2.2.2.1.2.2.1.1,v.2.2.2.2.2.1.2.2.1.2,v.2.2.2.2.2.2.1⟩
 fr:=λx=>(((),(x.n,(x.k,(x.k1,(x.top,(x.i,())))))),(x.m0,((x.c,(x.rows,())),(x.rs,(x.ms,(((x.wr_lo,x.wr_len,x.wr_cap),((x.wm_lo,x.wm_len,x.wm_cap),((x.wp_lo,x.wp_len),()))),(x.ps,())))))))
structure q1X where(n k:Int)(m0:List ((Int)×List (Int)))(c:Int)(rows rs ms:List ((Int)×List (Int)))(wr_lo wr_len wr_cap wm_lo wm_len wm_cap wp_lo wp_len:Nat)(ps:List (Int))
def q1:Pt q1X where
 own:=[]
 t:=⟨[(5,.c (.ptr 4 0)),(32,.c (.it .i64)),(33,.c (.it .i64))],[.arr (.pair (.int .i64) (.sl (.int .u64))) 0,.st [.it .i64,.arr (.pair (.int .i64) (.sl (.int .u64)))] 1 0,.arr (.pair (.int .i64) (.sl (.int .u64))) 0,.arr (.pair (.int .i64) (.sl (.int .u64))) 0,.st [.slc 2 0 2,.slc 3 0 2,.sl 5 0 1] 1 0,.arr (.int .i64) 0]⟩
 to:=λv=>⟨v.1.2.1,v.1.2.2.1,v.2.1,v.2.2.1.1,v.2.2.1.2.1,v.2.2.2.1,v.2.2.2.2.1,v.2.2.2.2.2.1.1.1,v.2.2.2.2.2.1.1.2.1,v.2.2.2.2.2.1.1.2.2,v.2.2.2.2.2.1.2.1.1,v.2.2.2.2.2.1.2.1.2.1,v.2.2.2.2.2.1.2.1.2.2,v.2.2.2.2.2.1.2.2.1.1,v.2.2.2.2.2.1.2.2.1.2,v.2.2.2.2.2.2.1⟩
 fr:=λx=>(((),(x.n,(x.k,()))),(x.m0,((x.c,(x.rows,())),(x.rs,(x.ms,(((x.wr_lo,x.wr_len,x.wr_cap),((x.wm_lo,x.wm_len,x.wm_cap),((x.wp_lo,x.wp_len),()))),(x.ps,())))))))
structure z1X where(n k:Int)(m0:List ((Int)×List (Int)))(c:Int)(rows rs ms:List ((Int)×List (Int)))(wr_lo wr_len wr_cap wm_lo wm_len wm_cap wp_lo wp_len:Nat)(ps:List (Int))
def z1:Pt z1X where
 own:=[]
 t:=⟨[(5,.c (.ptr 4 0)),(32,.c (.it .i64)),(33,.c (.it .i64))],[.arr (.pair (.int .i64) (.sl (.int .u64))) 0,.st [.it .i64,.arr (.pair (.int .i64) (.sl (.int .u64)))] 1 0,.arr (.pair (.int .i64) (.sl (.int .u64))) 0,.arr (.pair (.int .i64) (.sl (.int .u64))) 0,.st [.slc 2 0 2,.slc 3 0 2,.sl 5 0 1] 1 0,.arr (.int .i64) 0]⟩
 to:=λv=>⟨v.1.2.1,v.1.2.2.1,v.2.1,v.2.2.1.1,v.2.2.1.2.1,v.2.2.2.1,v.2.2.2.2.1,v.2.2.2.2.2.1.1.1,v.2.2.2.2.2.1.1.2.1,v.2.2.2.2.2.1.1.2.2,v.2.2.2.2.2.1.2.1.1,v.2.2.2.2.2.1.2.1.2.1,v.2.2.2.2.2.1.2.1.2.2,v.2.2.2.2.2.1.2.2.1.1,v.2.2.2.2.2.1.2.2.1.2,v.2.2.2.2.2.2.1⟩
 fr:=λx=>(((),(x.n,(x.k,()))),(x.m0,((x.c,(x.rows,())),(x.rs,(x.ms,(((x.wr_lo,x.wr_len,x.wr_cap),((x.wm_lo,x.wm_len,x.wm_cap),((x.wp_lo,x.wp_len),()))),(x.ps,())))))))
def s1(x:p1X):Option (p1X⊕(q1X⊕z1X)):=bif decide (x.i<(↑x.wr_len:Int)) then bif inR x.i x.wr_len then bif decide (x.wr_lo+x.i.toNat<x.rs.length) then bindO (M74.m ⟨(x.rs[x.wr_lo+x.i.toNat]?.getD (0,[])).1,(x.rs[x.wr_lo+x.i.toNat]?.getD (0,[])).2,x.k1⟩) λy=>bif !y then some (Sum.inl ⟨x.n,x.k,x.k1,x.top,IntKind.i64.wrap (x.i+1),x.m0,x.c,x.rows,x.rs,x.ms,x.wr_lo,x.wr_len,x.wr_cap,x.wm_lo,x.wm_len,x.wm_cap,x.wp_lo,x.wp_len,x.ps⟩) else bindO (M101.m ⟨x.i,x.top,x.wr_lo,x.wr_len,x.wr_cap,x.wm_lo,x.wm_len,x.wm_cap,x.wp_lo,x.wp_len,x.rs,x.ms,x.ps⟩) λy=>bindO (M102.m ⟨x.top,x.k1,y.1,y.2.1,y.2.2.1,y.2.2.2.1,y.2.2.2.2.1,y.2.2.2.2.2.1,y.2.2.2.2.2.2.1,y.2.2.2.2.2.2.2.1,y.2.2.2.2.2.2.2.2.1,y.2.2.2.2.2.2.2.2.2.1,y.2.2.2.2.2.2.2.2.2.2⟩) λy=>bif eqN y.2.2.2.2.2.2.1 0&&eqN y.2.2.2.2.2.2.2.2.2.2.length y.2.2.2.2.2.2.2.1&&Ql (y.2.2.2.2.2.2.2.1+1) 8 then some (Sum.inr (Sum.inr ⟨x.n,x.k,x.m0,x.c,x.rows,y.2.2.2.2.2.2.2.2.1,y.2.2.2.2.2.2.2.2.2.1,y.1,y.2.1,y.2.2.1,y.2.2.2.1,y.2.2.2.2.1,y.2.2.2.2.2.1,0,y.2.2.2.2.2.2.2.1+1,y.2.2.2.2.2.2.2.2.2.2++[x.k1]⟩)) else none else none else none else some (Sum.inr (Sum.inl ⟨x.n,x.k,x.m0,x.c,x.rows,x.rs,x.ms,x.wr_lo,x.wr_len,x.wr_cap,x.wm_lo,x.wm_len,x.wm_cap,x.wp_lo,x.wp_len,x.ps⟩))
theorem X3(x:p1X):exec E2 81 (C76.Q2 1) 2 (p1.R x) (p1.H x) (JF 1 p1 (.exit 2) q1 (.exit 1) z1)=s1 x:=by kernel_rfl
def l1:QU:=JG 1 p1 (.exit 2) q1 (.exit 1) z1 s1
theorem tl1:QI (C76.Q2 1) 2=[]:=by kernel_rfl
theorem X6  :QH Try.prog 81 none 1 (C76.Q2 1) l1:=Qi mixed (Q5 QB Q3 _) (by trivial) (by trivial) (λ_=>rfl) (λ_=>rfl) (λ_=>rfl) (tl1▸QA.nil) X3
def E1:Env:=⟨ty,QN cl,JH [(1,l1)],none⟩
structure p0X where(n k:Int)(m0:List ((Int)×List (Int)))(c:Int)(rows rs ms:List ((Int)×List (Int)))(wr_lo wr_len wr_cap wm_lo wm_len wm_cap wp_lo wp_len:Nat)(ps:List (Int))
def p0:Pt p0X where
 own:=[.cell 4 2 (.int .i64)]
 t:=⟨[(5,.c (.ptr 4 0)),(32,.c (.it .i64)),(33,.c (.it .i64))],[.arr (.pair (.int .i64) (.sl (.int .u64))) 0,.st [.it .i64,.arr (.pair (.int .i64) (.sl (.int .u64)))] 1 0,.arr (.pair (.int .i64) (.sl (.int .u64))) 0,.arr (.pair (.int .i64) (.sl (.int .u64))) 0,.st [.slc 2 0 2,.slc 3 0 2,.sl 5 0 1] 1 0,.arr (.int .i64) 0]⟩
 to:=λv=>⟨v.1.2.1,v.1.2.2.1,v.2.1,v.2.2.1.1,v.2.2.1.2.1,v.2.2.2.1,v.2.2.2.2.1,v.2.2.2.2.2.1.1.1,v.2.2.2.2.2.1.1.2.1,v.2.2.2.2.2.1.1.2.2,v.2.2.2.2.2.1.2.1.1,v.2.2.2.2.2.1.2.1.2.1,v.2.2.2.2.2.1.2.1.2.2,v.2.2.2.2.2.1.2.2.1.1,v.2.2.2.2.2.1.2.2.1.2,v.2.2.2.2.2.2.1⟩
 fr:=λx=>(((),(x.n,(x.k,()))),(x.m0,((x.c,(x.rows,())),(x.rs,(x.ms,(((x.wr_lo,x.wr_len,x.wr_cap),((x.wm_lo,x.wm_len,x.wm_cap),((x.wp_lo,x.wp_len),()))),(x.ps,())))))))
structure q0X where(m0:List ((Int)×List (Int)))(c:Int)(rows rs ms:List ((Int)×List (Int)))(wr_lo wr_len wr_cap wm_lo wm_len wm_cap wp_lo wp_len:Nat)(ps:List (Int))
def q0:Pt q0X where
 own:=[]
 t:=⟨[(5,.c (.ptr 4 0))],[.arr (.pair (.int .i64) (.sl (.int .u64))) 0,.st [.it .i64,.arr (.pair (.int .i64) (.sl (.int .u64)))] 1 0,.arr (.pair (.int .i64) (.sl (.int .u64))) 0,.arr (.pair (.int .i64) (.sl (.int .u64))) 0,.st [.slc 2 0 2,.slc 3 0 2,.sl 5 0 1] 1 0,.arr (.int .i64) 0]⟩
 to:=λv=>⟨v.2.1,v.2.2.1.1,v.2.2.1.2.1,v.2.2.2.1,v.2.2.2.2.1,v.2.2.2.2.2.1.1.1,v.2.2.2.2.2.1.1.2.1,v.2.2.2.2.2.1.1.2.2,v.2.2.2.2.2.1.2.1.1,v.2.2.2.2.2.1.2.1.2.1,v.2.2.2.2.2.1.2.1.2.2,v.2.2.2.2.2.1.2.2.1.1,v.2.2.2.2.2.1.2.2.1.2,v.2.2.2.2.2.2.1⟩
 fr:=λx=>(((),()),(x.m0,((x.c,(x.rows,())),(x.rs,(x.ms,(((x.wr_lo,x.wr_len,x.wr_cap),((x.wm_lo,x.wm_len,x.wm_cap),((x.wp_lo,x.wp_len),()))),(x.ps,())))))))
def s0(x:p0X):Option (p0X⊕q0X):=bif decide (x.k<x.n) then bindO (iter s1 ⟨x.n,x.k,x.k,(↑x.wp_len:Int),(↑x.wp_len:Int),x.m0,x.c,x.rows,x.rs,x.ms,x.wr_lo,x.wr_len,x.wr_cap,x.wm_lo,x.wm_len,x.wm_cap,x.wp_lo,x.wp_len,x.ps⟩) λs=>sumC s (λy=>some (Sum.inl ⟨y.n,IntKind.i64.wrap (y.k+1),y.m0,y.c,y.rows,y.rs,y.ms,y.wr_lo,y.wr_len,y.wr_cap,y.wm_lo,y.wm_len,y.wm_cap,y.wp_lo,y.wp_len,y.ps⟩)) λz=>some (Sum.inl ⟨z.n,IntKind.i64.wrap (z.k+1),z.m0,z.c,z.rows,z.rs,z.ms,z.wr_lo,z.wr_len,z.wr_cap,z.wm_lo,z.wm_len,z.wm_cap,z.wp_lo,z.wp_len,z.ps⟩) else some (Sum.inr ⟨x.m0,x.c,x.rows,x.rs,x.ms,x.wr_lo,x.wr_len,x.wr_cap,x.wm_lo,x.wm_len,x.wm_cap,x.wp_lo,x.wp_len,x.ps⟩)
theorem QZ(x:p0X):exec E1 81 (C76.Q2 0) 1 (p0.R x) (p0.H x) (Qr 1 p0 (.exit 0) q0)=s0 x:=by kernel_rfl
def l0:QU:=Qs 1 p0 (.exit 0) q0 s0
theorem tl0:QI (C76.Q2 0) 1=[(1,C76.Q2 1)]:=by kernel_rfl
theorem Qa  :QH Try.prog 81 none 1 (C76.Q2 0) l0:=QS mixed (Q5 QB Q3 _) (by trivial) (λ_=>rfl) (λ_=>rfl) (tl0▸(QA.cons rfl X6 QA.nil)) QZ
def E0:Env:=⟨ty,QN cl,JH [(0,l0),(1,l1)],none⟩
def m(x:gX):Option fY:=bif decide (0<=(↑x.rows.length:Int))&&decide ((↑x.rows.length:Int)<=(↑x.rows.length:Int))&&decide ((↑x.rows.length:Int)*(↑32:Int)<=281474976710656)&&decide ((↑x.rows.length:Int)<=9223372036854775807) then bif decide (0<=(↑x.more_len:Int))&&decide ((↑x.more_len:Int)<=(↑x.more_len:Int))&&decide ((↑x.more_len:Int)*(↑32:Int)<=281474976710656)&&decide ((↑x.more_len:Int)<=9223372036854775807) then bif leB (0+(↑x.rows.length:Int).toNat) (List.replicate (↑x.rows.length:Int).toNat ((0,[]):Int×List Int)).length then bif leB (x.more_lo+x.more_len) x.m0.length&&leB (0+(↑x.more_len:Int).toNat) (List.replicate (↑x.more_len:Int).toNat ((0,[]):Int×List Int)).length then bindO (iter s0 ⟨x.c,0,x.m0,x.c,x.rows,List.take 0 (List.replicate (↑x.rows.length:Int).toNat (0,[]))++List.take (min x.rows.length (↑x.rows.length:Int).toNat) x.rows++List.drop (0+min x.rows.length (↑x.rows.length:Int).toNat) (List.replicate (↑x.rows.length:Int).toNat (0,[])),List.take 0 (List.replicate (↑x.more_len:Int).toNat (0,[]))++List.take (min x.more_len (↑x.more_len:Int).toNat) (List.take x.more_len (List.drop x.more_lo x.m0))++List.drop (0+min x.more_len (↑x.more_len:Int).toNat) (List.replicate (↑x.more_len:Int).toNat (0,[])),0,(↑x.rows.length:Int).toNat,(↑x.rows.length:Int).toNat,0,(↑x.more_len:Int).toNat,(↑x.more_len:Int).toNat,0,0,[]⟩) λy=>some (y.m0,y.rs,y.ms,y.wr_lo,y.wr_len,y.wr_cap,y.wm_lo,y.wm_len,y.wm_cap,y.wp_lo,y.wp_len,y.ps) else none else none else none else none
theorem QL(x:gX):exec E0 81 C76 0 (QP 0 (g.A x)) (g.H x) (finish 1 ty [.tmp 4] f)=m x:=by kernel_rfl
theorem tl:QI C76 0=[(0,C76.Q2 0)]:=by kernel_rfl
theorem known:QM Try.prog 76 g f m:=
 Q8 mixed (Q5 QB Q3 _) s76 rfl rfl tl (QA.cons rfl Qa QA.nil) (λ_ _=>⟨rfl,rfl⟩) (λ_ _=>⟨rfl,rfl⟩) QL
def con:Con:=UP g [.arg 1 0] f m default
theorem con_ok:QR Try.prog 76 con:=XX known
end M76o
namespace M22
structure gX where(c:Int)(rows:List ((Int)×List (Int)))(bn:Int)(bw:List (Int))
def g:Sg gX:=⟨[.agg [.it .i64,.arr (.pair (.int .i64) (.sl (.int .u64)))],.agg [.it .i64,.arr (.int .u64)]],[],λa b=>⟨a.1.1,a.1.2.1,a.2.1.1,a.2.1.2.1⟩,λx=>((x.c,(x.rows,())),((x.bn,(x.bw,())),())),λx=>()⟩
abbrev fY:=Int×List (Int)×Int
def f:Ft fY:=⟨none,.tup [.inr [.it .i64,.arr (.int .u64)],.inl (.it .i64)],[],λa b=>(a.1.1,a.1.2.1,a.2.1),λy=>((y.1,(y.2.1,())),(y.2.2,())),λy=>()⟩
def cl:List (FuncId×Con):=[(50,M50.con),(38,M38.con),(73,M73.con),(74,M74.con),(75,M75.con),(76,M76o.con)]
theorem Q3:QF Try.prog cl:=⟨M50.con_ok,M38.con_ok,M73.con_ok,M74.con_ok,M75.con_ok,M76o.con_ok,trivial⟩
def E2:Env:=⟨ty,QN cl,λ_=>none,none⟩
structure p1X where(mo_lo mo_len mo_cap:Nat)(n i c:Int)(rows:List ((Int)×List (Int)))(bn:Int)(bw:List (Int))(side rs ms:List ((Int)×List (Int)))(wr_lo wr_len wr_cap wm_lo wm_len wm_cap wp_lo wp_len:Nat)(ps ws:List (Int))(xn:Int)(xw_lo xw_len xw_cap:Nat)
def p1:Pt p1X where
 own:=[]
 t:=⟨[(4,.c (.ptr 2 0)),(10,.c (.ptr 6 0)),(11,.c (.ptr 9 0)),(64,.c (.slc 5 0 2)),(65,.c (.it .i64)),(66,.c (.it .i64))],[.st [.it .i64,.arr (.pair (.int .i64) (.sl (.int .u64)))] 1 0,.st [.it .i64,.arr (.int .u64)] 1 0,.st [.junk,.junk] 1 0,.arr (.pair (.int .i64) (.sl (.int .u64))) 0,.arr (.pair (.int .i64) (.sl (.int .u64))) 0,.arr (.pair (.int .i64) (.sl (.int .u64))) 0,.st [.slc 4 0 2,.slc 5 0 2,.sl 7 0 1] 1 0,.arr (.int .i64) 0,.arr (.int .u64) 0,.st [.it .i64,.slc 8 0 1] 1 0]⟩
 to:=λv=>⟨v.1.2.2.2.1.1,v.1.2.2.2.1.2.1,v.1.2.2.2.1.2.2,v.1.2.2.2.2.1,v.1.2.2.2.2.2.1,v.2.1.1,v.2.1.2.1,v.2.2.1.1,v.2.2.1.2.1,v.2.2.2.2.1,v.2.2.2.2.2.1,v.2.2.2.2.2.2.1,v.2.2.2.2.2.2.2.1.1.1,v.2.2.2.2.2.2.2.1.1.2.1,v.2.2.2.2.2.2.2.1.1.2.2,v.2.2.2.2.2.2.2.1.2.1.1,v.2.2.2.2.2.2.2.1.2.1.2.1,v.2.2.2.2.2.2.2.1.2.1.2.2,v.2.2.2.2.2.2.2.1.2.2.1.1,v.2.2.2.2.2.2.2.1.2.2.1.2,v.2.2.2.2.2.2.2.2.1,v.2.2.2.2.2.2.2.2.2.1,v.2.2.2.2.2.2.2.2.2.2.1.1,v.2.2.2.2.2.2.2.2.2.2.1.2.1.1,v.2.2.2.2.2.2.2.2.2.2.1.2.1.2.1,v.2.2.2.2.2.2.2.2.2.2.1.2.1.2.2⟩
 fr:=λx=>(((),((),((),((x.mo_lo,x.mo_len,x.mo_cap),(x.n,(x.i,())))))),((x.c,(x.rows,())),((x.bn,(x.bw,())),(((),((),())),(x.side,(x.rs,(x.ms,(((x.wr_lo,x.wr_len,x.wr_cap),((x.wm_lo,x.wm_len,x.wm_cap),((x.wp_lo,x.wp_len),()))),(x.ps,(x.ws,((x.xn,((x.xw_lo,x.xw_len,x.xw_cap),())),())))))))))))
structure q1X where(c:Int)(rows:List ((Int)×List (Int)))(bn:Int)(bw:List (Int))(side rs ms:List ((Int)×List (Int)))(wr_lo wr_len wr_cap wm_lo wm_len wm_cap wp_lo wp_len:Nat)(ps ws:List (Int))(xn:Int)(xw_lo xw_len xw_cap:Nat)
def q1:Pt q1X where
 own:=[]
 t:=⟨[(4,.c (.ptr 2 0)),(11,.c (.ptr 9 0))],[.st [.it .i64,.arr (.pair (.int .i64) (.sl (.int .u64)))] 1 0,.st [.it .i64,.arr (.int .u64)] 1 0,.st [.junk,.junk] 1 0,.arr (.pair (.int .i64) (.sl (.int .u64))) 0,.arr (.pair (.int .i64) (.sl (.int .u64))) 0,.arr (.pair (.int .i64) (.sl (.int .u64))) 0,.st [.slc 4 0 2,.slc 5 0 2,.sl 7 0 1] 1 0,.arr (.int .i64) 0,.arr (.int .u64) 0,.st [.it .i64,.slc 8 0 1] 1 0]⟩
 to:=λv=>⟨v.2.1.1,v.2.1.2.1,v.2.2.1.1,v.2.2.1.2.1,v.2.2.2.2.1,v.2.2.2.2.2.1,v.2.2.2.2.2.2.1,v.2.2.2.2.2.2.2.1.1.1,v.2.2.2.2.2.2.2.1.1.2.1,v.2.2.2.2.2.2.2.1.1.2.2,v.2.2.2.2.2.2.2.1.2.1.1,v.2.2.2.2.2.2.2.1.2.1.2.1,v.2.2.2.2.2.2.2.1.2.1.2.2,v.2.2.2.2.2.2.2.1.2.2.1.1,v.2.2.2.2.2.2.2.1.2.2.1.2,v.2.2.2.2.2.2.2.2.1,v.2.2.2.2.2.2.2.2.2.1,v.2.2.2.2.2.2.2.2.2.2.1.1,v.2.2.2.2.2.2.2.2.2.2.1.2.1.1,v.2.2.2.2.2.2.2.2.2.2.1.2.1.2.1,v.2.2.2.2.2.2.2.2.2.2.1.2.1.2.2⟩
 fr:=λx=>(((),((),())),((x.c,(x.rows,())),((x.bn,(x.bw,())),(((),((),())),(x.side,(x.rs,(x.ms,(((x.wr_lo,x.wr_len,x.wr_cap),((x.wm_lo,x.wm_len,x.wm_cap),((x.wp_lo,x.wp_len),()))),(x.ps,(x.ws,((x.xn,((x.xw_lo,x.xw_len,x.xw_cap),())),())))))))))))
structure z1X where(e rn:Int)
def z1:Pt z1X where
 own:=[]
 t:=⟨[(4,.c (.ptr 2 0)),(5,.c (.it .i64))],[.st [.junk,.junk] 1 0,.st [.junk,.junk] 1 0,.st [.it .i64,.nils] 1 0]⟩
 to:=λv=>⟨v.1.2.1,v.2.2.2.1.1⟩
 fr:=λx=>(((),(x.e,())),(((),((),())),(((),((),())),((x.rn,((),())),()))))
def s1(x:p1X):Option (p1X⊕(q1X⊕z1X)):=bif decide (x.i<x.n) then bif inR x.i x.mo_len then bif decide (x.mo_lo+x.i.toNat<x.ms.length) then bindO (M74.m ⟨(x.ms[x.mo_lo+x.i.toNat]?.getD (0,[])).1,(x.ms[x.mo_lo+x.i.toNat]?.getD (0,[])).2,0⟩) λy=>bif !y then some (Sum.inl ⟨x.mo_lo,x.mo_len,x.mo_cap,x.n,IntKind.i64.wrap (x.i+1),x.c,x.rows,x.bn,x.bw,x.side,x.rs,x.ms,x.wr_lo,x.wr_len,x.wr_cap,x.wm_lo,x.wm_len,x.wm_cap,x.wp_lo,x.wp_len,x.ps,x.ws,x.xn,x.xw_lo,x.xw_len,x.xw_cap⟩) else bif decide (x.i>=(↑x.wp_len:Int)) then some (Sum.inr (Sum.inr ⟨9,0⟩)) else bif inR x.i x.wp_len then bif decide (x.wp_lo+x.i.toNat<x.ps.length) then bindO (M75.m ⟨x.xn,x.xw_lo,x.xw_len,x.xw_cap,x.ps[x.wp_lo+x.i.toNat]?.getD 0,x.ws⟩) λy=>some (Sum.inl ⟨x.mo_lo,x.mo_len,x.mo_cap,x.n,IntKind.i64.wrap (x.i+1),x.c,x.rows,x.bn,x.bw,x.side,x.rs,x.ms,x.wr_lo,x.wr_len,x.wr_cap,x.wm_lo,x.wm_len,x.wm_cap,x.wp_lo,x.wp_len,x.ps,y,x.xn,x.xw_lo,x.xw_len,x.xw_cap⟩) else none else none else none else none else some (Sum.inr (Sum.inl ⟨x.c,x.rows,x.bn,x.bw,x.side,x.rs,x.ms,x.wr_lo,x.wr_len,x.wr_cap,x.wm_lo,x.wm_len,x.wm_cap,x.wp_lo,x.wp_len,x.ps,x.ws,x.xn,x.xw_lo,x.xw_len,x.xw_cap⟩))
theorem X3(x:p1X):exec E2 95 (C22.Q2 1) 2 (p1.R x) (p1.H x) (JF 0 p1 (.exit 2) q1 .ret z1)=s1 x:=by kernel_rfl
def l1:QU:=JG 0 p1 (.exit 2) q1 .ret z1 s1
theorem tl1:QI (C22.Q2 1) 2=[]:=by kernel_rfl
theorem X6  :QH Try.prog 95 none 0 (C22.Q2 1) l1:=Qi mixed (Q5 QB Q3 _) (by trivial) (by trivial) (λ_=>rfl) (λ_=>rfl) (λ_=>rfl) (tl1▸QA.nil) X3
def E1:Env:=⟨ty,QN cl,JH [(1,l1)],none⟩
structure p0X where(side_lo side_len side_cap:Nat)(n i c:Int)(rows:List ((Int)×List (Int)))(bn:Int)(bw:List (Int))(side:List ((Int)×List (Int)))
def p0:Pt p0X where
 own:=[]
 t:=⟨[(2,.c (.ptr 0 0)),(3,.c (.ptr 1 0)),(4,.c (.ptr 2 0)),(8,.c (.slc 3 0 2)),(38,.c (.it .i64)),(39,.c (.it .i64))],[.st [.it .i64,.arr (.pair (.int .i64) (.sl (.int .u64)))] 1 0,.st [.it .i64,.arr (.int .u64)] 1 0,.st [.junk,.junk] 1 0,.arr (.pair (.int .i64) (.sl (.int .u64))) 0]⟩
 to:=λv=>⟨v.1.2.2.2.1.1,v.1.2.2.2.1.2.1,v.1.2.2.2.1.2.2,v.1.2.2.2.2.1,v.1.2.2.2.2.2.1,v.2.1.1,v.2.1.2.1,v.2.2.1.1,v.2.2.1.2.1,v.2.2.2.2.1⟩
 fr:=λx=>(((),((),((),((x.side_lo,x.side_len,x.side_cap),(x.n,(x.i,())))))),((x.c,(x.rows,())),((x.bn,(x.bw,())),(((),((),())),(x.side,())))))
structure q0X where(side_lo side_len side_cap:Nat)(c:Int)(rows:List ((Int)×List (Int)))(bn:Int)(bw:List (Int))(side:List ((Int)×List (Int)))
def q0:Pt q0X where
 own:=[]
 t:=⟨[(2,.c (.ptr 0 0)),(4,.c (.ptr 2 0)),(8,.c (.slc 3 0 2))],[.st [.it .i64,.arr (.pair (.int .i64) (.sl (.int .u64)))] 1 0,.st [.it .i64,.arr (.int .u64)] 1 0,.st [.junk,.junk] 1 0,.arr (.pair (.int .i64) (.sl (.int .u64))) 0]⟩
 to:=λv=>⟨v.1.2.2.1.1,v.1.2.2.1.2.1,v.1.2.2.1.2.2,v.2.1.1,v.2.1.2.1,v.2.2.1.1,v.2.2.1.2.1,v.2.2.2.2.1⟩
 fr:=λx=>(((),((),((x.side_lo,x.side_len,x.side_cap),()))),((x.c,(x.rows,())),((x.bn,(x.bw,())),(((),((),())),(x.side,())))))
def s0(x:p0X):Option (p0X⊕q0X):=bif decide (x.i<x.n) then bindO (M73.m ⟨1⟩) λy=>bif inR x.i x.side_len then bif decide (x.side_lo+x.i.toNat<x.side.length) then bindO (M74.m ⟨x.bn,x.bw,x.i⟩) λy_1=>bif y_1 then bif inR x.i x.side_len then bif eqN (x.side_lo+x.i.toNat) (List.take (x.side_lo+x.i.toNat) x.side).length then bindO (M75.m ⟨y.1,y.2.1,y.2.2.1,y.2.2.2.1,0,y.2.2.2.2⟩) λy_2=>bif leB (y.2.1+y.2.2.1) (List.length y_2)&&true&&true then some (Sum.inl ⟨x.side_lo,x.side_len,x.side_cap,x.n,IntKind.i64.wrap (x.i+1),x.c,x.rows,x.bn,x.bw,List.take (x.side_lo+x.i.toNat) x.side++(y.1,List.take y.2.2.1 (List.drop y.2.1 y_2))::List.drop (x.side_lo+x.i.toNat+1) x.side⟩) else none else none else none else bif leB (y.2.1+y.2.2.1) y.2.2.2.2.length&&true&&true then some (Sum.inl ⟨x.side_lo,x.side_len,x.side_cap,x.n,IntKind.i64.wrap (x.i+1),x.c,x.rows,x.bn,x.bw,List.take (x.side_lo+x.i.toNat) x.side++(y.1,List.take y.2.2.1 (List.drop y.2.1 y.2.2.2.2))::List.drop (x.side_lo+x.i.toNat+1) x.side⟩) else none else none else none else some (Sum.inr ⟨x.side_lo,x.side_len,x.side_cap,x.c,x.rows,x.bn,x.bw,x.side⟩)
theorem QZ(x:p0X):exec E1 95 (C22.Q2 0) 1 (p0.R x) (p0.H x) (Qr 0 p0 (.exit 0) q0)=s0 x:=by kernel_rfl
def l0:QU:=Qs 0 p0 (.exit 0) q0 s0
theorem tl0:QI (C22.Q2 0) 1=[]:=by kernel_rfl
theorem Qa  :QH Try.prog 95 none 0 (C22.Q2 0) l0:=QS mixed (Q5 QB Q3 _) (by trivial) (λ_=>rfl) (λ_=>rfl) (tl0▸QA.nil) QZ
def E0:Env:=⟨ty,QN cl,JH [(0,l0),(1,l1)],none⟩
def m(x:gX):Option fY:=bindO (M50.m ⟨x.c,x.rows⟩) λy=>bif y !=0 then some (0,[],y) else bindO (M38.m ⟨x.bn,x.bw⟩) λy=>bif y !=0 then some (0,[],y) else bif x.bn !=(↑x.rows.length:Int) then some (0,[],8) else bif decide (0<=(↑x.rows.length:Int))&&decide ((↑x.rows.length:Int)<=(↑x.rows.length:Int))&&decide ((↑x.rows.length:Int)*(↑32:Int)<=281474976710656)&&decide ((↑x.rows.length:Int)<=9223372036854775807) then bindO (iter s0 ⟨0,(↑x.rows.length:Int).toNat,(↑x.rows.length:Int).toNat,(↑(↑x.rows.length:Int).toNat:Int),0,x.c,x.rows,x.bn,x.bw,List.replicate (↑x.rows.length:Int).toNat (0,[])⟩) λy=>bindO (M76o.m ⟨y.c,y.rows,y.side_lo,y.side_len,y.side_cap,y.side⟩) λy_1=>bindO (M73.m ⟨y.c⟩) λy_2=>bindO (iter s1 ⟨y_1.2.2.2.2.2.2.1,y_1.2.2.2.2.2.2.2.1,y_1.2.2.2.2.2.2.2.2.1,(↑y_1.2.2.2.2.2.2.2.1:Int),0,y.c,y.rows,y.bn,y.bw,y_1.1,y_1.2.1,y_1.2.2.1,y_1.2.2.2.1,y_1.2.2.2.2.1,y_1.2.2.2.2.2.1,y_1.2.2.2.2.2.2.1,y_1.2.2.2.2.2.2.2.1,y_1.2.2.2.2.2.2.2.2.1,y_1.2.2.2.2.2.2.2.2.2.1,y_1.2.2.2.2.2.2.2.2.2.2.1,y_1.2.2.2.2.2.2.2.2.2.2.2,y_2.2.2.2.2,y_2.1,y_2.2.1,y_2.2.2.1,y_2.2.2.2.1⟩) λs=>sumC s (λy=>bif leB (y.xw_lo+y.xw_len) y.ws.length&&true&&true&&true&&true then some (y.xn,List.take y.xw_len (List.drop y.xw_lo y.ws),0) else none) λz=>some (z.rn,[],z.e) else none
theorem QL(x:gX):exec E0 95 C22 0 (QP 0 (g.A x)) (g.H x) (finish 0 ty [.cell 4 34,.tmp 5] f)=m x:=by kernel_rfl
theorem tl:QI C22 0=[(0,C22.Q2 0),(1,C22.Q2 1)]:=by kernel_rfl
theorem known:QM Try.prog 22 g f m:=
 Q8 mixed (Q5 QB Q3 _) s22 rfl rfl tl (QA.cons rfl Qa (QA.cons rfl X6 QA.nil)) (λ_ _=>⟨rfl,rfl⟩) (λ_ _=>⟨rfl,rfl⟩) QL
def con:Con:=J9 g f m default
theorem con_ok:QR Try.prog 22 con:=QG known (λ_=>rfl) rfl
end M22
