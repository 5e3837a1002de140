/-
  What the proof stands on.
-/
import Derived.Test.YtddaobhpffpmoaaGRAQGa
import Derived.Test.YtddaobhpffpmoaaGRAQG9
set_option linter.all false
noncomputable section
namespace Go.Proofs.Ytddaobhpffpmoaa
open Go.Abs
set_option maxRecDepth 100000
namespace M51t
structure gX where
 n:Int
def g:Sg gX where
 vs:=[.c (.it .i64)]
 h:=[]
 to:=fun a b=>⟨a.1⟩
 fa:=fun x=>(x.n,())
 fh:=fun x=>()
abbrev fY:=Int×List (Int)×Int
def f:Ft fY where
 ord:=none
 sh:=.tup [.inr [.it .i64,.arr (.int .u64)],.inl (.it .i64)]
 h:=[]
 to:=fun a b=>(a.1.1,a.1.2.1,a.2.1)
 fv:=fun y=>((y.1,(y.2.1,())),(y.2.2,()))
 fh:=fun y=>()
def cl:List (FuncId×Con):=[(85,M85.con),(73,M73.con)]
theorem Q5:QG Try.prog cl:=⟨M85.Q1,M73.Q1,trivial⟩
def E0:Env:=⟨ty,QL cl,fun _=>none,none⟩
def m(x:gX):Option fY:=Q0 (M85.m ⟨x.n⟩) fun y=>bif y !=0 then some (0,[],y) else Q0 (M73.m ⟨x.n⟩) fun y=>bif leB (y.2.1+y.2.2.1) y.2.2.2.2.length&&true&&true&&true&&true then some (y.1,List.take y.2.2.1 (List.drop y.2.1 y.2.2.2.2),0) else none
theorem QJ(x:gX):exec E0 13 C51 0 (QN 0 (g.A x)) (g.H x) (finish 0 ty [.cell 2 34,.tmp 3] f)=m x:=by kernel_rfl
theorem tl:QI C51 0=[]:=by kernel_rfl
theorem known:QM Try.prog 51 g f m:=
 Q9 mixed (Q8 QC Q5 _) s51 rfl rfl tl QB.nil (fun _ _=>⟨rfl,rfl⟩) (fun _ _=>⟨rfl,rfl⟩) QJ
def con:Con:=Qx g f m default
theorem Q1:QO Try.prog 51 con:=QE known (fun _=>rfl) rfl
end M51t
end Go.Proofs.Ytddaobhpffpmoaa
namespace Go.Proofs.Ytddaobhpffpmoaa
open Go.Abs
set_option maxRecDepth 100000
namespace M45
structure gX where
 n:Int
def g:Sg gX where
 vs:=[.c (.it .i64)]
 h:=[]
 to:=fun a b=>⟨a.1⟩
 fa:=fun x=>(x.n,())
 fh:=fun x=>()
abbrev fY:=Int×(List ((Int)×List (Int)))×Int
def f:Ft fY where
 ord:=none
 sh:=.tup [.inr [.it .i64,.arr (.pair (.int .i64) (.sl (.int .u64)))],.inl (.it .i64)]
 h:=[]
 to:=fun a b=>(a.1.1,a.1.2.1,a.2.1)
 fv:=fun y=>((y.1,(y.2.1,())),(y.2.2,()))
 fh:=fun y=>()
def cl:List (FuncId×Con):=[(85,M85.con),(73,M73.con),(75,M75.con)]
theorem Q5:QG Try.prog cl:=⟨M85.Q1,M73.Q1,M75.Q1,trivial⟩
def E1:Env:=⟨ty,QL cl,fun _=>none,none⟩
structure p0X where
 n:Int
 l:Int
 i:Int
 out:List ((Int)×List (Int))
 oc:Int
 or__lo:Nat
 or__len:Nat
 or__cap:Nat
def p0:Pt p0X where
 own:=[]
 t:=⟨[(0,.c (.it .i64)),(2,.c (.ptr 0 0)),(5,.c (.ptr 2 0)),(19,.c (.it .i64)),(20,.c (.it .i64))],[.st [.junk,.junk] 1 0,.arr (.pair (.int .i64) (.sl (.int .u64))) 0,.st [.it .i64,.slc 1 0 2] 1 0]⟩
 to:=fun v=>⟨v.1.1,v.1.2.2.2.1,v.1.2.2.2.2.1,v.2.2.1,v.2.2.2.1.1,v.2.2.2.1.2.1.1,v.2.2.2.1.2.1.2.1,v.2.2.2.1.2.1.2.2⟩
 fr:=fun x=>((x.n,((),((),(x.l,(x.i,()))))),(((),((),())),(x.out,((x.oc,((x.or__lo,x.or__len,x.or__cap),())),()))))
structure q0X where
 out:List ((Int)×List (Int))
 oc:Int
 or__lo:Nat
 or__len:Nat
 or__cap:Nat
def q0:Pt q0X where
 own:=[]
 t:=⟨[(2,.c (.ptr 0 0)),(5,.c (.ptr 2 0))],[.st [.junk,.junk] 1 0,.arr (.pair (.int .i64) (.sl (.int .u64))) 0,.st [.it .i64,.slc 1 0 2] 1 0]⟩
 to:=fun v=>⟨v.2.2.1,v.2.2.2.1.1,v.2.2.2.1.2.1.1,v.2.2.2.1.2.1.2.1,v.2.2.2.1.2.1.2.2⟩
 fr:=fun x=>(((),((),())),(((),((),())),(x.out,((x.oc,((x.or__lo,x.or__len,x.or__cap),())),()))))
def s0(x:p0X):Option (p0X⊕q0X):=bif decide (x.i<x.l) then Q0 (M73.m ⟨x.n⟩) fun y=>bif inR x.i x.or__len then bif decide (x.or__lo+x.i.toNat<x.out.length) then bif inR x.i x.or__len then bif eqN (x.or__lo+x.i.toNat) (List.take (x.or__lo+x.i.toNat) x.out).length then Q0 (M75.m ⟨y.1,y.2.1,y.2.2.1,y.2.2.2.1,x.i,y.2.2.2.2⟩) fun y_1=>bif leB (y.2.1+y.2.2.1) (List.length y_1)&&true&&true then some (Sum.inl ⟨x.n,x.l,IntKind.i64.wrap (x.i+1),List.take (x.or__lo+x.i.toNat) x.out++(y.1,List.take y.2.2.1 (List.drop y.2.1 y_1))::List.drop (x.or__lo+x.i.toNat+1) x.out,x.oc,x.or__lo,x.or__len,x.or__cap⟩) else none else none else none else none else none else some (Sum.inr ⟨x.out,x.oc,x.or__lo,x.or__len,x.or__cap⟩)
theorem QV(x:p0X):exec E1 38 (C45.Q2 0) 1 (p0.R x) (p0.H x) (Qq 0 p0 (.exit 0) q0)=s0 x:=by kernel_rfl
def l0:QS:=Qr 0 p0 (.exit 0) q0 s0
theorem tl0:QI (C45.Q2 0) 1=[]:=by kernel_rfl
theorem QW  :QF Try.prog 38 none 0 (C45.Q2 0) l0:=QQ mixed (Q8 QC Q5 _) (by trivial) (fun _=>rfl) (fun _=>rfl) (tl0▸QB.nil) QV
def E0:Env:=⟨ty,QL cl,JA [(0,l0)],none⟩
def m(x:gX):Option fY:=Q0 (M85.m ⟨x.n⟩) fun y=>bif y !=0 then some (0,[],y) else bif decide (0≤x.n)&&decide (x.n≤x.n)&&decide (x.n*(↑32:Int)≤281474976710656)&&decide (x.n≤9223372036854775807) then Q0 (iter s0 ⟨x.n,(↑x.n.toNat:Int),0,List.replicate x.n.toNat (0,[]),x.n,0,x.n.toNat,x.n.toNat⟩) fun y=>bif leB (y.or__lo+y.or__len) y.out.length&&true&&true&&true&&true then some (y.oc,List.take y.or__len (List.drop y.or__lo y.out),0) else none else none
theorem QJ(x:gX):exec E0 38 C45 0 (QN 0 (g.A x)) (g.H x) (finish 0 ty [.cell 2 40,.tmp 3] f)=m x:=by kernel_rfl
theorem tl:QI C45 0=[(0,C45.Q2 0)]:=by kernel_rfl
theorem known:QM Try.prog 45 g f m:=
 Q9 mixed (Q8 QC Q5 _) s45 rfl rfl tl (QB.cons rfl QW QB.nil) (fun _ _=>⟨rfl,rfl⟩) (fun _ _=>⟨rfl,rfl⟩) QJ
def con:Con:=Qx g f m default
theorem Q1:QO Try.prog 45 con:=QE known (fun _=>rfl) rfl
end M45
namespace M47
structure gX where
 c:Int
 rows:List ((Int)×List (Int))
def g:Sg gX where
 vs:=[.agg [.it .i64,.arr (.pair (.int .i64) (.sl (.int .u64)))]]
 h:=[]
 to:=fun a b=>⟨a.1.1,a.1.2.1⟩
 fa:=fun x=>((x.c,(x.rows,())),())
 fh:=fun x=>()
abbrev fY:=Int×(List ((Int)×List (Int)))×Int
def f:Ft fY where
 ord:=none
 sh:=.tup [.inr [.it .i64,.arr (.pair (.int .i64) (.sl (.int .u64)))],.inl (.it .i64)]
 h:=[]
 to:=fun a b=>(a.1.1,a.1.2.1,a.2.1)
 fv:=fun y=>((y.1,(y.2.1,())),(y.2.2,()))
 fh:=fun y=>()
def cl:List (FuncId×Con):=[(50,M50.con),(45,M45.con),(76,M76.con)]
theorem Q5:QG Try.prog cl:=⟨M50.Q1,M45.Q1,M76.Q1,trivial⟩
def E0:Env:=⟨ty,QL cl,fun _=>none,none⟩
def m(x:gX):Option fY:=Q0 (M50.m ⟨x.c,x.rows⟩) fun y=>bif y !=0 then some (0,[],y) else bif x.c !=(↑x.rows.length:Int) then some (0,[],8) else Q0 (M45.m ⟨x.c⟩) fun y=>Q0 (M76.m ⟨x.c,x.rows,y.2.1⟩) fun y=>bif decide ((↑y.2.2.2.2.2.2.2.2.2.1:Int)<x.c) then some (0,[],9) else bif leB (y.2.2.2.2.2.1+y.2.2.2.2.2.2.1) y.2.1.length&&true&&true&&true&&true then some (x.c,List.take y.2.2.2.2.2.2.1 (List.drop y.2.2.2.2.2.1 y.2.1),0) else none
theorem QJ(x:gX):exec E0 47 C47 0 (QN 0 (g.A x)) (g.H x) (finish 0 ty [.cell 2 40,.tmp 3] f)=m x:=by kernel_rfl
theorem tl:QI C47 0=[]:=by kernel_rfl
theorem known:QM Try.prog 47 g f m:=
 Q9 mixed (Q8 QC Q5 _) s47 rfl rfl tl QB.nil (fun _ _=>⟨rfl,rfl⟩) (fun _ _=>⟨rfl,rfl⟩) QJ
def con:Con:=Qx g f m default
theorem Q1:QO Try.prog 47 con:=QE known (fun _=>rfl) rfl
end M47
end Go.Proofs.Ytddaobhpffpmoaa
namespace Go.Proofs.Ytddaobhpffpmoaa
open Go.Abs
set_option maxRecDepth 100000
namespace M76g
structure gX where
 c:Int
 rows_lo:Nat
 rows_len:Nat
 rows_cap:Nat
 more:List ((Int)×List (Int))
 r0:List ((Int)×List (Int))
def g:Sg gX where
 vs:=[.agg [.it .i64,.slc 0 0 2],.c (.arr (.pair (.int .i64) (.sl (.int .u64))))]
 h:=[.arr (.pair (.int .i64) (.sl (.int .u64))) 0]
 to:=fun a b=>⟨a.1.1,a.1.2.1.1,a.1.2.1.2.1,a.1.2.1.2.2,a.2.1,b.1⟩
 fa:=fun x=>((x.c,((x.rows_lo,x.rows_len,x.rows_cap),())),(x.more,()))
 fh:=fun x=>(x.r0,())
abbrev fY:=(List ((Int)×List (Int)))×(List ((Int)×List (Int)))×(List ((Int)×List (Int)))×Nat×Nat×Nat×Nat×Nat×Nat×Nat×Nat×List (Int)
def f:Ft fY where
 ord:=some [0,2,3,4,5,1]
 sh:=.c (.ptr 3 0)
 h:=[.arr (.pair (.int .i64) (.sl (.int .u64))) 0,.arr (.pair (.int .i64) (.sl (.int .u64))) 0,.arr (.pair (.int .i64) (.sl (.int .u64))) 0,.st [.slc 1 0 2,.slc 2 0 2,.sl 4 0 1] 1 0,.arr (.int .i64) 0]
 to:=fun a b=>(b.1,b.2.1,b.2.2.1,b.2.2.2.1.1.1,b.2.2.2.1.1.2.1,b.2.2.2.1.1.2.2,b.2.2.2.1.2.1.1,b.2.2.2.1.2.1.2.1,b.2.2.2.1.2.1.2.2,b.2.2.2.1.2.2.1.1,b.2.2.2.1.2.2.1.2,b.2.2.2.2.1)
 fv:=fun y=>()
 fh:=fun y=>(y.1,(y.2.1,(y.2.2.1,(((y.2.2.2.1,y.2.2.2.2.1,y.2.2.2.2.2.1),((y.2.2.2.2.2.2.1,y.2.2.2.2.2.2.2.1,y.2.2.2.2.2.2.2.2.1),((y.2.2.2.2.2.2.2.2.2.1,y.2.2.2.2.2.2.2.2.2.2.1),()))),(y.2.2.2.2.2.2.2.2.2.2.2,())))))
def cl:List (FuncId×Con):=[(74,M74.con),(101,M101.con),(102,M102.con)]
theorem Q5:QG Try.prog cl:=⟨M74.Q1,M101.Q1,M102.Q1,trivial⟩
def E2:Env:=⟨ty,QL cl,fun _=>none,none⟩
structure p1X where
 n:Int
 k:Int
 k1:Int
 top:Int
 i:Int
 r0:List ((Int)×List (Int))
 c:Int
 rows_lo:Nat
 rows_len:Nat
 rows_cap:Nat
 rs:List ((Int)×List (Int))
 ms:List ((Int)×List (Int))
 wr_lo:Nat
 wr_len:Nat
 wr_cap:Nat
 wm_lo:Nat
 wm_len:Nat
 wm_cap:Nat
 wp_lo:Nat
 wp_len:Nat
 ps:List (Int)
def p1:Pt p1X where
 own:=[.cell 4 2 (.int .i64)]
 t:=⟨[(5,.c (.ptr 4 0)),(32,.c (.it .i64)),(33,.c (.it .i64)),(6,.c (.it .i64)),(7,.c (.it .i64)),(8,.c (.it .i64))],[.arr (.pair (.int .i64) (.sl (.int .u64))) 0,.st [.it .i64,.slc 0 0 2] 1 0,.arr (.pair (.int .i64) (.sl (.int .u64))) 0,.arr (.pair (.int .i64) (.sl (.int .u64))) 0,.st [.slc 2 0 2,.slc 3 0 2,.sl 5 0 1] 1 0,.arr (.int .i64) 0]⟩
 to:=fun v=>⟨v.1.2.1,v.1.2.2.1,v.1.2.2.2.1,v.1.2.2.2.2.1,v.1.2.2.2.2.2.1,v.2.1,v.2.2.1.1,v.2.2.1.2.1.1,v.2.2.1.2.1.2.1,v.2.2.1.2.1.2.2,v.2.2.2.1,v.2.2.2.2.1,v.2.2.2.2.2.1.1.1,v.2.2.2.2.2.1.1.2.1,v.2.2.2.2.2.1.1.2.2,v.2.2.2.2.2.1.2.1.1,v.2.2.2.2.2.1.2.1.2.1,v.2.2.2.2.2.1.2.1.2.2,v.2.2.2.2.2.1.2.2.1.1,v.2.2.2.2.2.1.2.2.1.2,v.2.2.2.2.2.2.1⟩
 fr:=fun x=>(((),(x.n,(x.k,(x.k1,(x.top,(x.i,())))))),(x.r0,((x.c,((x.rows_lo,x.rows_len,x.rows_cap),())),(x.rs,(x.ms,(((x.wr_lo,x.wr_len,x.wr_cap),((x.wm_lo,x.wm_len,x.wm_cap),((x.wp_lo,x.wp_len),()))),(x.ps,())))))))
structure q1X where
 n:Int
 k:Int
 r0:List ((Int)×List (Int))
 c:Int
 rows_lo:Nat
 rows_len:Nat
 rows_cap:Nat
 rs:List ((Int)×List (Int))
 ms:List ((Int)×List (Int))
 wr_lo:Nat
 wr_len:Nat
 wr_cap:Nat
 wm_lo:Nat
 wm_len:Nat
 wm_cap:Nat
 wp_lo:Nat
 wp_len:Nat
 ps:List (Int)
def q1:Pt q1X where
 own:=[]
 t:=⟨[(5,.c (.ptr 4 0)),(32,.c (.it .i64)),(33,.c (.it .i64))],[.arr (.pair (.int .i64) (.sl (.int .u64))) 0,.st [.it .i64,.slc 0 0 2] 1 0,.arr (.pair (.int .i64) (.sl (.int .u64))) 0,.arr (.pair (.int .i64) (.sl (.int .u64))) 0,.st [.slc 2 0 2,.slc 3 0 2,.sl 5 0 1] 1 0,.arr (.int .i64) 0]⟩
 to:=fun v=>⟨v.1.2.1,v.1.2.2.1,v.2.1,v.2.2.1.1,v.2.2.1.2.1.1,v.2.2.1.2.1.2.1,v.2.2.1.2.1.2.2,v.2.2.2.1,v.2.2.2.2.1,v.2.2.2.2.2.1.1.1,v.2.2.2.2.2.1.1.2.1,v.2.2.2.2.2.1.1.2.2,v.2.2.2.2.2.1.2.1.1,v.2.2.2.2.2.1.2.1.2.1,v.2.2.2.2.2.1.2.1.2.2,v.2.2.2.2.2.1.2.2.1.1,v.2.2.2.2.2.1.2.2.1.2,v.2.2.2.2.2.2.1⟩
 fr:=fun x=>(((),(x.n,(x.k,()))),(x.r0,((x.c,((x.rows_lo,x.rows_len,x.rows_cap),())),(x.rs,(x.ms,(((x.wr_lo,x.wr_len,x.wr_cap),((x.wm_lo,x.wm_len,x.wm_cap),((x.wp_lo,x.wp_len),()))),(x.ps,())))))))
structure z1X where
 n:Int
 k:Int
 r0:List ((Int)×List (Int))
 c:Int
 rows_lo:Nat
 rows_len:Nat
 rows_cap:Nat
 rs:List ((Int)×List (Int))
 ms:List ((Int)×List (Int))
 wr_lo:Nat
 wr_len:Nat
 wr_cap:Nat
 wm_lo:Nat
 wm_len:Nat
 wm_cap:Nat
 wp_lo:Nat
 wp_len:Nat
 ps:List (Int)
def z1:Pt z1X where
 own:=[]
 t:=⟨[(5,.c (.ptr 4 0)),(32,.c (.it .i64)),(33,.c (.it .i64))],[.arr (.pair (.int .i64) (.sl (.int .u64))) 0,.st [.it .i64,.slc 0 0 2] 1 0,.arr (.pair (.int .i64) (.sl (.int .u64))) 0,.arr (.pair (.int .i64) (.sl (.int .u64))) 0,.st [.slc 2 0 2,.slc 3 0 2,.sl 5 0 1] 1 0,.arr (.int .i64) 0]⟩
 to:=fun v=>⟨v.1.2.1,v.1.2.2.1,v.2.1,v.2.2.1.1,v.2.2.1.2.1.1,v.2.2.1.2.1.2.1,v.2.2.1.2.1.2.2,v.2.2.2.1,v.2.2.2.2.1,v.2.2.2.2.2.1.1.1,v.2.2.2.2.2.1.1.2.1,v.2.2.2.2.2.1.1.2.2,v.2.2.2.2.2.1.2.1.1,v.2.2.2.2.2.1.2.1.2.1,v.2.2.2.2.2.1.2.1.2.2,v.2.2.2.2.2.1.2.2.1.1,v.2.2.2.2.2.1.2.2.1.2,v.2.2.2.2.2.2.1⟩
 fr:=fun x=>(((),(x.n,(x.k,()))),(x.r0,((x.c,((x.rows_lo,x.rows_len,x.rows_cap),())),(x.rs,(x.ms,(((x.wr_lo,x.wr_len,x.wr_cap),((x.wm_lo,x.wm_len,x.wm_cap),((x.wp_lo,x.wp_len),()))),(x.ps,())))))))
def s1(x:p1X):Option (p1X⊕(q1X⊕z1X)):=bif decide (x.i<(↑x.wr_len:Int)) then bif inR x.i x.wr_len then bif decide (x.wr_lo+x.i.toNat<x.rs.length) then Q0 (M74.m ⟨(x.rs[x.wr_lo+x.i.toNat]?.getD (0,[])).1,(x.rs[x.wr_lo+x.i.toNat]?.getD (0,[])).2,x.k1⟩) fun y=>bif !y then some (Sum.inl ⟨x.n,x.k,x.k1,x.top,IntKind.i64.wrap (x.i+1),x.r0,x.c,x.rows_lo,x.rows_len,x.rows_cap,x.rs,x.ms,x.wr_lo,x.wr_len,x.wr_cap,x.wm_lo,x.wm_len,x.wm_cap,x.wp_lo,x.wp_len,x.ps⟩) else Q0 (M101.m ⟨x.i,x.top,x.wr_lo,x.wr_len,x.wr_cap,x.wm_lo,x.wm_len,x.wm_cap,x.wp_lo,x.wp_len,x.rs,x.ms,x.ps⟩) fun y=>Q0 (M102.m ⟨x.top,x.k1,y.1,y.2.1,y.2.2.1,y.2.2.2.1,y.2.2.2.2.1,y.2.2.2.2.2.1,y.2.2.2.2.2.2.1,y.2.2.2.2.2.2.2.1,y.2.2.2.2.2.2.2.2.1,y.2.2.2.2.2.2.2.2.2.1,y.2.2.2.2.2.2.2.2.2.2⟩) fun y=>bif eqN y.2.2.2.2.2.2.1 0&&eqN y.2.2.2.2.2.2.2.2.2.2.length y.2.2.2.2.2.2.2.1&&QP (y.2.2.2.2.2.2.2.1+1) 8 then some (Sum.inr (Sum.inr ⟨x.n,x.k,x.r0,x.c,x.rows_lo,x.rows_len,x.rows_cap,y.2.2.2.2.2.2.2.2.1,y.2.2.2.2.2.2.2.2.2.1,y.1,y.2.1,y.2.2.1,y.2.2.2.1,y.2.2.2.2.1,y.2.2.2.2.2.1,0,y.2.2.2.2.2.2.2.1+1,y.2.2.2.2.2.2.2.2.2.2++[x.k1]⟩)) else none else none else none else some (Sum.inr (Sum.inl ⟨x.n,x.k,x.r0,x.c,x.rows_lo,x.rows_len,x.rows_cap,x.rs,x.ms,x.wr_lo,x.wr_len,x.wr_cap,x.wm_lo,x.wm_len,x.wm_cap,x.wp_lo,x.wp_len,x.ps⟩))
theorem JZ(x:p1X):exec E2 81 (C76.Q2 1) 2 (p1.R x) (p1.H x) (J3 1 p1 (.exit 2) q1 (.exit 1) z1)=s1 x:=by kernel_rfl
def l1:QS:=J4 1 p1 (.exit 2) q1 (.exit 1) z1 s1
theorem tl1:QI (C76.Q2 1) 2=[]:=by kernel_rfl
theorem Jb  :QF Try.prog 81 none 1 (C76.Q2 1) l1:=Qc mixed (Q8 QC Q5 _) (by trivial) (by trivial) (fun _=>rfl) (fun _=>rfl) (fun _=>rfl) (tl1▸QB.nil) JZ
def E1:Env:=⟨ty,QL cl,JA [(1,l1)],none⟩
structure p0X where
 n:Int
 k:Int
 r0:List ((Int)×List (Int))
 c:Int
 rows_lo:Nat
 rows_len:Nat
 rows_cap:Nat
 rs:List ((Int)×List (Int))
 ms:List ((Int)×List (Int))
 wr_lo:Nat
 wr_len:Nat
 wr_cap:Nat
 wm_lo:Nat
 wm_len:Nat
 wm_cap:Nat
 wp_lo:Nat
 wp_len:Nat
 ps:List (Int)
def p0:Pt p0X where
 own:=[.cell 4 2 (.int .i64)]
 t:=⟨[(5,.c (.ptr 4 0)),(32,.c (.it .i64)),(33,.c (.it .i64))],[.arr (.pair (.int .i64) (.sl (.int .u64))) 0,.st [.it .i64,.slc 0 0 2] 1 0,.arr (.pair (.int .i64) (.sl (.int .u64))) 0,.arr (.pair (.int .i64) (.sl (.int .u64))) 0,.st [.slc 2 0 2,.slc 3 0 2,.sl 5 0 1] 1 0,.arr (.int .i64) 0]⟩
 to:=fun v=>⟨v.1.2.1,v.1.2.2.1,v.2.1,v.2.2.1.1,v.2.2.1.2.1.1,v.2.2.1.2.1.2.1,v.2.2.1.2.1.2.2,v.2.2.2.1,v.2.2.2.2.1,v.2.2.2.2.2.1.1.1,v.2.2.2.2.2.1.1.2.1,v.2.2.2.2.2.1.1.2.2,v.2.2.2.2.2.1.2.1.1,v.2.2.2.2.2.1.2.1.2.1,v.2.2.2.2.2.1.2.1.2.2,v.2.2.2.2.2.1.2.2.1.1,v.2.2.2.2.2.1.2.2.1.2,v.2.2.2.2.2.2.1⟩
 fr:=fun x=>(((),(x.n,(x.k,()))),(x.r0,((x.c,((x.rows_lo,x.rows_len,x.rows_cap),())),(x.rs,(x.ms,(((x.wr_lo,x.wr_len,x.wr_cap),((x.wm_lo,x.wm_len,x.wm_cap),((x.wp_lo,x.wp_len),()))),(x.ps,())))))))
structure q0X where
 r0:List ((Int)×List (Int))
 c:Int
 rows_lo:Nat
 rows_len:Nat
 rows_cap:Nat
 rs:List ((Int)×List (Int))
 ms:List ((Int)×List (Int))
 wr_lo:Nat
 wr_len:Nat
 wr_cap:Nat
 wm_lo:Nat
 wm_len:Nat
 wm_cap:Nat
 wp_lo:Nat
 wp_len:Nat
 ps:List (Int)
def q0:Pt q0X where
 own:=[]
 t:=⟨[(5,.c (.ptr 4 0))],[.arr (.pair (.int .i64) (.sl (.int .u64))) 0,.st [.it .i64,.slc 0 0 2] 1 0,.arr (.pair (.int .i64) (.sl (.int .u64))) 0,.arr (.pair (.int .i64) (.sl (.int .u64))) 0,.st [.slc 2 0 2,.slc 3 0 2,.sl 5 0 1] 1 0,.arr (.int .i64) 0]⟩
 to:=fun v=>⟨v.2.1,v.2.2.1.1,v.2.2.1.2.1.1,v.2.2.1.2.1.2.1,v.2.2.1.2.1.2.2,v.2.2.2.1,v.2.2.2.2.1,v.2.2.2.2.2.1.1.1,v.2.2.2.2.2.1.1.2.1,v.2.2.2.2.2.1.1.2.2,v.2.2.2.2.2.1.2.1.1,v.2.2.2.2.2.1.2.1.2.1,v.2.2.2.2.2.1.2.1.2.2,v.2.2.2.2.2.1.2.2.1.1,v.2.2.2.2.2.1.2.2.1.2,v.2.2.2.2.2.2.1⟩
 fr:=fun x=>(((),()),(x.r0,((x.c,((x.rows_lo,x.rows_len,x.rows_cap),())),(x.rs,(x.ms,(((x.wr_lo,x.wr_len,x.wr_cap),((x.wm_lo,x.wm_len,x.wm_cap),((x.wp_lo,x.wp_len),()))),(x.ps,())))))))
def s0(x:p0X):Option (p0X⊕q0X):=bif decide (x.k<x.n) then Q0 (iter s1 ⟨x.n,x.k,x.k,(↑x.wp_len:Int),(↑x.wp_len:Int),x.r0,x.c,x.rows_lo,x.rows_len,x.rows_cap,x.rs,x.ms,x.wr_lo,x.wr_len,x.wr_cap,x.wm_lo,x.wm_len,x.wm_cap,x.wp_lo,x.wp_len,x.ps⟩) fun s=>J6 s (fun y=>some (Sum.inl ⟨y.n,IntKind.i64.wrap (y.k+1),y.r0,y.c,y.rows_lo,y.rows_len,y.rows_cap,y.rs,y.ms,y.wr_lo,y.wr_len,y.wr_cap,y.wm_lo,y.wm_len,y.wm_cap,y.wp_lo,y.wp_len,y.ps⟩)) fun z=>some (Sum.inl ⟨z.n,IntKind.i64.wrap (z.k+1),z.r0,z.c,z.rows_lo,z.rows_len,z.rows_cap,z.rs,z.ms,z.wr_lo,z.wr_len,z.wr_cap,z.wm_lo,z.wm_len,z.wm_cap,z.wp_lo,z.wp_len,z.ps⟩) else some (Sum.inr ⟨x.r0,x.c,x.rows_lo,x.rows_len,x.rows_cap,x.rs,x.ms,x.wr_lo,x.wr_len,x.wr_cap,x.wm_lo,x.wm_len,x.wm_cap,x.wp_lo,x.wp_len,x.ps⟩)
theorem QV(x:p0X):exec E1 81 (C76.Q2 0) 1 (p0.R x) (p0.H x) (Qq 1 p0 (.exit 0) q0)=s0 x:=by kernel_rfl
def l0:QS:=Qr 1 p0 (.exit 0) q0 s0
theorem tl0:QI (C76.Q2 0) 1=[(1,C76.Q2 1)]:=by kernel_rfl
theorem QW  :QF Try.prog 81 none 1 (C76.Q2 0) l0:=QQ mixed (Q8 QC Q5 _) (by trivial) (fun _=>rfl) (fun _=>rfl) (tl0▸(QB.cons rfl Jb QB.nil)) QV
def E0:Env:=⟨ty,QL cl,JA [(0,l0),(1,l1)],none⟩
def m(x:gX):Option fY:=bif decide (0≤(↑x.rows_len:Int))&&decide ((↑x.rows_len:Int)≤(↑x.rows_len:Int))&&decide ((↑x.rows_len:Int)*(↑32:Int)≤281474976710656)&&decide ((↑x.rows_len:Int)≤9223372036854775807) then bif decide (0≤(↑x.more.length:Int))&&decide ((↑x.more.length:Int)≤(↑x.more.length:Int))&&decide ((↑x.more.length:Int)*(↑32:Int)≤281474976710656)&&decide ((↑x.more.length:Int)≤9223372036854775807) then bif leB (x.rows_lo+x.rows_len) x.r0.length&&leB (0+(↑x.rows_len:Int).toNat) (List.replicate (↑x.rows_len:Int).toNat ((0,[]):Int×List Int)).length then bif leB (0+(↑x.more.length:Int).toNat) (List.replicate (↑x.more.length:Int).toNat ((0,[]):Int×List Int)).length then Q0 (iter s0 ⟨x.c,0,x.r0,x.c,x.rows_lo,x.rows_len,x.rows_cap,List.take 0 (List.replicate (↑x.rows_len:Int).toNat (0,[]))++List.take (min x.rows_len (↑x.rows_len:Int).toNat) (List.take x.rows_len (List.drop x.rows_lo x.r0))++List.drop (0+min x.rows_len (↑x.rows_len:Int).toNat) (List.replicate (↑x.rows_len:Int).toNat (0,[])),List.take 0 (List.replicate (↑x.more.length:Int).toNat (0,[]))++List.take (min x.more.length (↑x.more.length:Int).toNat) x.more++List.drop (0+min x.more.length (↑x.more.length:Int).toNat) (List.replicate (↑x.more.length:Int).toNat (0,[])),0,(↑x.rows_len:Int).toNat,(↑x.rows_len:Int).toNat,0,(↑x.more.length:Int).toNat,(↑x.more.length:Int).toNat,0,0,[]⟩) fun y=>some (y.r0,y.rs,y.ms,y.wr_lo,y.wr_len,y.wr_cap,y.wm_lo,y.wm_len,y.wm_cap,y.wp_lo,y.wp_len,y.ps) else none else none else none else none
theorem QJ(x:gX):exec E0 81 C76 0 (QN 0 (g.A x)) (g.H x) (finish 1 ty [.tmp 4] f)=m x:=by kernel_rfl
theorem tl:QI C76 0=[(0,C76.Q2 0)]:=by kernel_rfl
theorem known:QM Try.prog 76 g f m:=
 Q9 mixed (Q8 QC Q5 _) s76 rfl rfl tl (QB.cons rfl QW QB.nil) (fun _ _=>⟨rfl,rfl⟩) (fun _ _=>⟨rfl,rfl⟩) QJ
def con:Con:=j4 g [.arg 0 1] f m default
theorem Q1:QO Try.prog 76 con:=ZZ known
end M76g
namespace M47g
structure gX where
 c:Int
 rows_lo:Nat
 rows_len:Nat
 rows_cap:Nat
 r0:List ((Int)×List (Int))
def g:Sg gX where
 vs:=[.agg [.it .i64,.slc 0 0 2]]
 h:=[.arr (.pair (.int .i64) (.sl (.int .u64))) 0]
 to:=fun a b=>⟨a.1.1,a.1.2.1.1,a.1.2.1.2.1,a.1.2.1.2.2,b.1⟩
 fa:=fun x=>((x.c,((x.rows_lo,x.rows_len,x.rows_cap),())),())
 fh:=fun x=>(x.r0,())
abbrev fY:=Int×(List ((Int)×List (Int)))×Int×(List ((Int)×List (Int)))
def f:Ft fY where
 ord:=none
 sh:=.tup [.inr [.it .i64,.arr (.pair (.int .i64) (.sl (.int .u64)))],.inl (.it .i64)]
 h:=[.arr (.pair (.int .i64) (.sl (.int .u64))) 0]
 to:=fun a b=>(a.1.1,a.1.2.1,a.2.1,b.1)
 fv:=fun y=>((y.1,(y.2.1,())),(y.2.2.1,()))
 fh:=fun y=>(y.2.2.2,())
def cl:List (FuncId×Con):=[(50,M50.Wj),(45,M45.con),(76,M76g.con)]
theorem Q5:QG Try.prog cl:=⟨M50.ZY,M45.Q1,M76g.Q1,trivial⟩
def E0:Env:=⟨ty,QL cl,fun _=>none,none⟩
def m(x:gX):Option fY:=Q0 (bif leB (x.rows_lo+x.rows_len) x.r0.length&&true&&true then M50.m ⟨x.c,List.take x.rows_len (List.drop x.rows_lo x.r0)⟩ else none) fun y=>bif y !=0 then some (0,[],y,x.r0) else bif x.c !=(↑x.rows_len:Int) then some (0,[],8,x.r0) else Q0 (M45.m ⟨x.c⟩) fun y=>Q0 (M76g.m ⟨x.c,x.rows_lo,x.rows_len,x.rows_cap,y.2.1,x.r0⟩) fun y=>bif decide ((↑y.2.2.2.2.2.2.2.2.2.2.1:Int)<x.c) then some (0,[],9,y.1) else bif leB (y.2.2.2.2.2.2.1+y.2.2.2.2.2.2.2.1) y.2.2.1.length&&true&&true&&true&&true then some (x.c,List.take y.2.2.2.2.2.2.2.1 (List.drop y.2.2.2.2.2.2.1 y.2.2.1),0,y.1) else none
theorem QJ(x:gX):exec E0 47 C47 0 (QN 0 (g.A x)) (g.H x) (finish 1 ty [.cell 2 40,.tmp 3] f)=m x:=by kernel_rfl
theorem tl:QI C47 0=[]:=by kernel_rfl
theorem known:QM Try.prog 47 g f m:=
 Q9 mixed (Q8 QC Q5 _) s47 rfl rfl tl QB.nil (fun _ _=>⟨rfl,rfl⟩) (fun _ _=>⟨rfl,rfl⟩) QJ
def con:Con:=j4 g [.arg 0 1] f m default
theorem Q1:QO Try.prog 47 con:=ZZ known
end M47g
end Go.Proofs.Ytddaobhpffpmoaa
namespace Go.Proofs.Ytddaobhpffpmoaa
open Go.Abs
set_option maxRecDepth 100000
namespace M76o
structure gX where
 c:Int
 rows:List ((Int)×List (Int))
 more_lo:Nat
 more_len:Nat
 more_cap:Nat
 m0:List ((Int)×List (Int))
def g:Sg gX where
 vs:=[.agg [.it .i64,.arr (.pair (.int .i64) (.sl (.int .u64)))],.c (.slc 0 0 2)]
 h:=[.arr (.pair (.int .i64) (.sl (.int .u64))) 0]
 to:=fun a b=>⟨a.1.1,a.1.2.1,a.2.1.1,a.2.1.2.1,a.2.1.2.2,b.1⟩
 fa:=fun x=>((x.c,(x.rows,())),((x.more_lo,x.more_len,x.more_cap),()))
 fh:=fun x=>(x.m0,())
abbrev fY:=(List ((Int)×List (Int)))×(List ((Int)×List (Int)))×(List ((Int)×List (Int)))×Nat×Nat×Nat×Nat×Nat×Nat×Nat×Nat×List (Int)
def f:Ft fY where
 ord:=some [0,2,3,4,5,1]
 sh:=.c (.ptr 3 0)
 h:=[.arr (.pair (.int .i64) (.sl (.int .u64))) 0,.arr (.pair (.int .i64) (.sl (.int .u64))) 0,.arr (.pair (.int .i64) (.sl (.int .u64))) 0,.st [.slc 1 0 2,.slc 2 0 2,.sl 4 0 1] 1 0,.arr (.int .i64) 0]
 to:=fun a b=>(b.1,b.2.1,b.2.2.1,b.2.2.2.1.1.1,b.2.2.2.1.1.2.1,b.2.2.2.1.1.2.2,b.2.2.2.1.2.1.1,b.2.2.2.1.2.1.2.1,b.2.2.2.1.2.1.2.2,b.2.2.2.1.2.2.1.1,b.2.2.2.1.2.2.1.2,b.2.2.2.2.1)
 fv:=fun y=>()
 fh:=fun y=>(y.1,(y.2.1,(y.2.2.1,(((y.2.2.2.1,y.2.2.2.2.1,y.2.2.2.2.2.1),((y.2.2.2.2.2.2.1,y.2.2.2.2.2.2.2.1,y.2.2.2.2.2.2.2.2.1),((y.2.2.2.2.2.2.2.2.2.1,y.2.2.2.2.2.2.2.2.2.2.1),()))),(y.2.2.2.2.2.2.2.2.2.2.2,())))))
def cl:List (FuncId×Con):=[(74,M74.con),(101,M101.con),(102,M102.con)]
theorem Q5:QG Try.prog cl:=⟨M74.Q1,M101.Q1,M102.Q1,trivial⟩
def E2:Env:=⟨ty,QL cl,fun _=>none,none⟩
structure p1X where
 n:Int
 k:Int
 k1:Int
 top:Int
 i:Int
 m0:List ((Int)×List (Int))
 c:Int
 rows:List ((Int)×List (Int))
 rs:List ((Int)×List (Int))
 ms:List ((Int)×List (Int))
 wr_lo:Nat
 wr_len:Nat
 wr_cap:Nat
 wm_lo:Nat
 wm_len:Nat
 wm_cap:Nat
 wp_lo:Nat
 wp_len:Nat
 ps:List (Int)
def p1:Pt p1X where
 own:=[.cell 4 2 (.int .i64)]
 t:=⟨[(5,.c (.ptr 4 0)),(32,.c (.it .i64)),(33,.c (.it .i64)),(6,.c (.it .i64)),(7,.c (.it .i64)),(8,.c (.it .i64))],[.arr (.pair (.int .i64) (.sl (.int .u64))) 0,.st [.it .i64,.arr (.pair (.int .i64) (.sl (.int .u64)))] 1 0,.arr (.pair (.int .i64) (.sl (.int .u64))) 0,.arr (.pair (.int .i64) (.sl (.int .u64))) 0,.st [.slc 2 0 2,.slc 3 0 2,.sl 5 0 1] 1 0,.arr (.int .i64) 0]⟩
 to:=fun v=>⟨v.1.2.1,v.1.2.2.1,v.1.2.2.2.1,v.1.2.2.2.2.1,v.1.2.2.2.2.2.1,v.2.1,v.2.2.1.1,v.2.2.1.2.1,v.2.2.2.1,v.2.2.2.2.1,v.2.2.2.2.2.1.1.1,v.2.2.2.2.2.1.1.2.1,v.2.2.2.2.2.1.1.2.2,v.2.2.2.2.2.1.2.1.1,v.2.2.2.2.2.1.2.1.2.1,v.2.2.2.2.2.1.2.1.2.2,v.2.2.2.2.2.1.2.2.1.1,v.2.2.2.2.2.1.2.2.1.2,v.2.2.2.2.2.2.1⟩
 fr:=fun x=>(((),(x.n,(x.k,(x.k1,(x.top,(x.i,())))))),(x.m0,((x.c,(x.rows,())),(x.rs,(x.ms,(((x.wr_lo,x.wr_len,x.wr_cap),((x.wm_lo,x.wm_len,x.wm_cap),((x.wp_lo,x.wp_len),()))),(x.ps,())))))))
structure q1X where
 n:Int
 k:Int
 m0:List ((Int)×List (Int))
 c:Int
 rows:List ((Int)×List (Int))
 rs:List ((Int)×List (Int))
 ms:List ((Int)×List (Int))
 wr_lo:Nat
 wr_len:Nat
 wr_cap:Nat
 wm_lo:Nat
 wm_len:Nat
 wm_cap:Nat
 wp_lo:Nat
 wp_len:Nat
 ps:List (Int)
def q1:Pt q1X where
 own:=[]
 t:=⟨[(5,.c (.ptr 4 0)),(32,.c (.it .i64)),(33,.c (.it .i64))],[.arr (.pair (.int .i64) (.sl (.int .u64))) 0,.st [.it .i64,.arr (.pair (.int .i64) (.sl (.int .u64)))] 1 0,.arr (.pair (.int .i64) (.sl (.int .u64))) 0,.arr (.pair (.int .i64) (.sl (.int .u64))) 0,.st [.slc 2 0 2,.slc 3 0 2,.sl 5 0 1] 1 0,.arr (.int .i64) 0]⟩
 to:=fun v=>⟨v.1.2.1,v.1.2.2.1,v.2.1,v.2.2.1.1,v.2.2.1.2.1,v.2.2.2.1,v.2.2.2.2.1,v.2.2.2.2.2.1.1.1,v.2.2.2.2.2.1.1.2.1,v.2.2.2.2.2.1.1.2.2,v.2.2.2.2.2.1.2.1.1,v.2.2.2.2.2.1.2.1.2.1,v.2.2.2.2.2.1.2.1.2.2,v.2.2.2.2.2.1.2.2.1.1,v.2.2.2.2.2.1.2.2.1.2,v.2.2.2.2.2.2.1⟩
 fr:=fun x=>(((),(x.n,(x.k,()))),(x.m0,((x.c,(x.rows,())),(x.rs,(x.ms,(((x.wr_lo,x.wr_len,x.wr_cap),((x.wm_lo,x.wm_len,x.wm_cap),((x.wp_lo,x.wp_len),()))),(x.ps,())))))))
structure z1X where
 n:Int
 k:Int
 m0:List ((Int)×List (Int))
 c:Int
 rows:List ((Int)×List (Int))
 rs:List ((Int)×List (Int))
 ms:List ((Int)×List (Int))
 wr_lo:Nat
 wr_len:Nat
 wr_cap:Nat
 wm_lo:Nat
 wm_len:Nat
 wm_cap:Nat
 wp_lo:Nat
 wp_len:Nat
 ps:List (Int)
def z1:Pt z1X where
 own:=[]
 t:=⟨[(5,.c (.ptr 4 0)),(32,.c (.it .i64)),(33,.c (.it .i64))],[.arr (.pair (.int .i64) (.sl (.int .u64))) 0,.st [.it .i64,.arr (.pair (.int .i64) (.sl (.int .u64)))] 1 0,.arr (.pair (.int .i64) (.sl (.int .u64))) 0,.arr (.pair (.int .i64) (.sl (.int .u64))) 0,.st [.slc 2 0 2,.slc 3 0 2,.sl 5 0 1] 1 0,.arr (.int .i64) 0]⟩
 to:=fun v=>⟨v.1.2.1,v.1.2.2.1,v.2.1,v.2.2.1.1,v.2.2.1.2.1,v.2.2.2.1,v.2.2.2.2.1,v.2.2.2.2.2.1.1.1,v.2.2.2.2.2.1.1.2.1,v.2.2.2.2.2.1.1.2.2,v.2.2.2.2.2.1.2.1.1,v.2.2.2.2.2.1.2.1.2.1,v.2.2.2.2.2.1.2.1.2.2,v.2.2.2.2.2.1.2.2.1.1,v.2.2.2.2.2.1.2.2.1.2,v.2.2.2.2.2.2.1⟩
 fr:=fun x=>(((),(x.n,(x.k,()))),(x.m0,((x.c,(x.rows,())),(x.rs,(x.ms,(((x.wr_lo,x.wr_len,x.wr_cap),((x.wm_lo,x.wm_len,x.wm_cap),((x.wp_lo,x.wp_len),()))),(x.ps,())))))))
def s1(x:p1X):Option (p1X⊕(q1X⊕z1X)):=bif decide (x.i<(↑x.wr_len:Int)) then bif inR x.i x.wr_len then bif decide (x.wr_lo+x.i.toNat<x.rs.length) then Q0 (M74.m ⟨(x.rs[x.wr_lo+x.i.toNat]?.getD (0,[])).1,(x.rs[x.wr_lo+x.i.toNat]?.getD (0,[])).2,x.k1⟩) fun y=>bif !y then some (Sum.inl ⟨x.n,x.k,x.k1,x.top,IntKind.i64.wrap (x.i+1),x.m0,x.c,x.rows,x.rs,x.ms,x.wr_lo,x.wr_len,x.wr_cap,x.wm_lo,x.wm_len,x.wm_cap,x.wp_lo,x.wp_len,x.ps⟩) else Q0 (M101.m ⟨x.i,x.top,x.wr_lo,x.wr_len,x.wr_cap,x.wm_lo,x.wm_len,x.wm_cap,x.wp_lo,x.wp_len,x.rs,x.ms,x.ps⟩) fun y=>Q0 (M102.m ⟨x.top,x.k1,y.1,y.2.1,y.2.2.1,y.2.2.2.1,y.2.2.2.2.1,y.2.2.2.2.2.1,y.2.2.2.2.2.2.1,y.2.2.2.2.2.2.2.1,y.2.2.2.2.2.2.2.2.1,y.2.2.2.2.2.2.2.2.2.1,y.2.2.2.2.2.2.2.2.2.2⟩) fun y=>bif eqN y.2.2.2.2.2.2.1 0&&eqN y.2.2.2.2.2.2.2.2.2.2.length y.2.2.2.2.2.2.2.1&&QP (y.2.2.2.2.2.2.2.1+1) 8 then some (Sum.inr (Sum.inr ⟨x.n,x.k,x.m0,x.c,x.rows,y.2.2.2.2.2.2.2.2.1,y.2.2.2.2.2.2.2.2.2.1,y.1,y.2.1,y.2.2.1,y.2.2.2.1,y.2.2.2.2.1,y.2.2.2.2.2.1,0,y.2.2.2.2.2.2.2.1+1,y.2.2.2.2.2.2.2.2.2.2++[x.k1]⟩)) else none else none else none else some (Sum.inr (Sum.inl ⟨x.n,x.k,x.m0,x.c,x.rows,x.rs,x.ms,x.wr_lo,x.wr_len,x.wr_cap,x.wm_lo,x.wm_len,x.wm_cap,x.wp_lo,x.wp_len,x.ps⟩))
theorem JZ(x:p1X):exec E2 81 (C76.Q2 1) 2 (p1.R x) (p1.H x) (J3 1 p1 (.exit 2) q1 (.exit 1) z1)=s1 x:=by kernel_rfl
def l1:QS:=J4 1 p1 (.exit 2) q1 (.exit 1) z1 s1
theorem tl1:QI (C76.Q2 1) 2=[]:=by kernel_rfl
theorem Jb  :QF Try.prog 81 none 1 (C76.Q2 1) l1:=Qc mixed (Q8 QC Q5 _) (by trivial) (by trivial) (fun _=>rfl) (fun _=>rfl) (fun _=>rfl) (tl1▸QB.nil) JZ
def E1:Env:=⟨ty,QL cl,JA [(1,l1)],none⟩
structure p0X where
 n:Int
 k:Int
 m0:List ((Int)×List (Int))
 c:Int
 rows:List ((Int)×List (Int))
 rs:List ((Int)×List (Int))
 ms:List ((Int)×List (Int))
 wr_lo:Nat
 wr_len:Nat
 wr_cap:Nat
 wm_lo:Nat
 wm_len:Nat
 wm_cap:Nat
 wp_lo:Nat
 wp_len:Nat
 ps:List (Int)
def p0:Pt p0X where
 own:=[.cell 4 2 (.int .i64)]
 t:=⟨[(5,.c (.ptr 4 0)),(32,.c (.it .i64)),(33,.c (.it .i64))],[.arr (.pair (.int .i64) (.sl (.int .u64))) 0,.st [.it .i64,.arr (.pair (.int .i64) (.sl (.int .u64)))] 1 0,.arr (.pair (.int .i64) (.sl (.int .u64))) 0,.arr (.pair (.int .i64) (.sl (.int .u64))) 0,.st [.slc 2 0 2,.slc 3 0 2,.sl 5 0 1] 1 0,.arr (.int .i64) 0]⟩
 to:=fun v=>⟨v.1.2.1,v.1.2.2.1,v.2.1,v.2.2.1.1,v.2.2.1.2.1,v.2.2.2.1,v.2.2.2.2.1,v.2.2.2.2.2.1.1.1,v.2.2.2.2.2.1.1.2.1,v.2.2.2.2.2.1.1.2.2,v.2.2.2.2.2.1.2.1.1,v.2.2.2.2.2.1.2.1.2.1,v.2.2.2.2.2.1.2.1.2.2,v.2.2.2.2.2.1.2.2.1.1,v.2.2.2.2.2.1.2.2.1.2,v.2.2.2.2.2.2.1⟩
 fr:=fun x=>(((),(x.n,(x.k,()))),(x.m0,((x.c,(x.rows,())),(x.rs,(x.ms,(((x.wr_lo,x.wr_len,x.wr_cap),((x.wm_lo,x.wm_len,x.wm_cap),((x.wp_lo,x.wp_len),()))),(x.ps,())))))))
structure q0X where
 m0:List ((Int)×List (Int))
 c:Int
 rows:List ((Int)×List (Int))
 rs:List ((Int)×List (Int))
 ms:List ((Int)×List (Int))
 wr_lo:Nat
 wr_len:Nat
 wr_cap:Nat
 wm_lo:Nat
 wm_len:Nat
 wm_cap:Nat
 wp_lo:Nat
 wp_len:Nat
 ps:List (Int)
def q0:Pt q0X where
 own:=[]
 t:=⟨[(5,.c (.ptr 4 0))],[.arr (.pair (.int .i64) (.sl (.int .u64))) 0,.st [.it .i64,.arr (.pair (.int .i64) (.sl (.int .u64)))] 1 0,.arr (.pair (.int .i64) (.sl (.int .u64))) 0,.arr (.pair (.int .i64) (.sl (.int .u64))) 0,.st [.slc 2 0 2,.slc 3 0 2,.sl 5 0 1] 1 0,.arr (.int .i64) 0]⟩
 to:=fun v=>⟨v.2.1,v.2.2.1.1,v.2.2.1.2.1,v.2.2.2.1,v.2.2.2.2.1,v.2.2.2.2.2.1.1.1,v.2.2.2.2.2.1.1.2.1,v.2.2.2.2.2.1.1.2.2,v.2.2.2.2.2.1.2.1.1,v.2.2.2.2.2.1.2.1.2.1,v.2.2.2.2.2.1.2.1.2.2,v.2.2.2.2.2.1.2.2.1.1,v.2.2.2.2.2.1.2.2.1.2,v.2.2.2.2.2.2.1⟩
 fr:=fun x=>(((),()),(x.m0,((x.c,(x.rows,())),(x.rs,(x.ms,(((x.wr_lo,x.wr_len,x.wr_cap),((x.wm_lo,x.wm_len,x.wm_cap),((x.wp_lo,x.wp_len),()))),(x.ps,())))))))
def s0(x:p0X):Option (p0X⊕q0X):=bif decide (x.k<x.n) then Q0 (iter s1 ⟨x.n,x.k,x.k,(↑x.wp_len:Int),(↑x.wp_len:Int),x.m0,x.c,x.rows,x.rs,x.ms,x.wr_lo,x.wr_len,x.wr_cap,x.wm_lo,x.wm_len,x.wm_cap,x.wp_lo,x.wp_len,x.ps⟩) fun s=>J6 s (fun y=>some (Sum.inl ⟨y.n,IntKind.i64.wrap (y.k+1),y.m0,y.c,y.rows,y.rs,y.ms,y.wr_lo,y.wr_len,y.wr_cap,y.wm_lo,y.wm_len,y.wm_cap,y.wp_lo,y.wp_len,y.ps⟩)) fun z=>some (Sum.inl ⟨z.n,IntKind.i64.wrap (z.k+1),z.m0,z.c,z.rows,z.rs,z.ms,z.wr_lo,z.wr_len,z.wr_cap,z.wm_lo,z.wm_len,z.wm_cap,z.wp_lo,z.wp_len,z.ps⟩) else some (Sum.inr ⟨x.m0,x.c,x.rows,x.rs,x.ms,x.wr_lo,x.wr_len,x.wr_cap,x.wm_lo,x.wm_len,x.wm_cap,x.wp_lo,x.wp_len,x.ps⟩)
theorem QV(x:p0X):exec E1 81 (C76.Q2 0) 1 (p0.R x) (p0.H x) (Qq 1 p0 (.exit 0) q0)=s0 x:=by kernel_rfl
def l0:QS:=Qr 1 p0 (.exit 0) q0 s0
theorem tl0:QI (C76.Q2 0) 1=[(1,C76.Q2 1)]:=by kernel_rfl
theorem QW  :QF Try.prog 81 none 1 (C76.Q2 0) l0:=QQ mixed (Q8 QC Q5 _) (by trivial) (fun _=>rfl) (fun _=>rfl) (tl0▸(QB.cons rfl Jb QB.nil)) QV
def E0:Env:=⟨ty,QL cl,JA [(0,l0),(1,l1)],none⟩
def m(x:gX):Option fY:=bif decide (0≤(↑x.rows.length:Int))&&decide ((↑x.rows.length:Int)≤(↑x.rows.length:Int))&&decide ((↑x.rows.length:Int)*(↑32:Int)≤281474976710656)&&decide ((↑x.rows.length:Int)≤9223372036854775807) then bif decide (0≤(↑x.more_len:Int))&&decide ((↑x.more_len:Int)≤(↑x.more_len:Int))&&decide ((↑x.more_len:Int)*(↑32:Int)≤281474976710656)&&decide ((↑x.more_len:Int)≤9223372036854775807) then bif leB (0+(↑x.rows.length:Int).toNat) (List.replicate (↑x.rows.length:Int).toNat ((0,[]):Int×List Int)).length then bif leB (x.more_lo+x.more_len) x.m0.length&&leB (0+(↑x.more_len:Int).toNat) (List.replicate (↑x.more_len:Int).toNat ((0,[]):Int×List Int)).length then Q0 (iter s0 ⟨x.c,0,x.m0,x.c,x.rows,List.take 0 (List.replicate (↑x.rows.length:Int).toNat (0,[]))++List.take (min x.rows.length (↑x.rows.length:Int).toNat) x.rows++List.drop (0+min x.rows.length (↑x.rows.length:Int).toNat) (List.replicate (↑x.rows.length:Int).toNat (0,[])),List.take 0 (List.replicate (↑x.more_len:Int).toNat (0,[]))++List.take (min x.more_len (↑x.more_len:Int).toNat) (List.take x.more_len (List.drop x.more_lo x.m0))++List.drop (0+min x.more_len (↑x.more_len:Int).toNat) (List.replicate (↑x.more_len:Int).toNat (0,[])),0,(↑x.rows.length:Int).toNat,(↑x.rows.length:Int).toNat,0,(↑x.more_len:Int).toNat,(↑x.more_len:Int).toNat,0,0,[]⟩) fun y=>some (y.m0,y.rs,y.ms,y.wr_lo,y.wr_len,y.wr_cap,y.wm_lo,y.wm_len,y.wm_cap,y.wp_lo,y.wp_len,y.ps) else none else none else none else none
theorem QJ(x:gX):exec E0 81 C76 0 (QN 0 (g.A x)) (g.H x) (finish 1 ty [.tmp 4] f)=m x:=by kernel_rfl
theorem tl:QI C76 0=[(0,C76.Q2 0)]:=by kernel_rfl
theorem known:QM Try.prog 76 g f m:=
 Q9 mixed (Q8 QC Q5 _) s76 rfl rfl tl (QB.cons rfl QW QB.nil) (fun _ _=>⟨rfl,rfl⟩) (fun _ _=>⟨rfl,rfl⟩) QJ
def con:Con:=j4 g [.arg 1 0] f m default
theorem Q1:QO Try.prog 76 con:=ZZ known
end M76o
end Go.Proofs.Ytddaobhpffpmoaa
namespace Go.Proofs.Ytddaobhpffpmoaa
open Go.Abs
set_option maxRecDepth 100000
namespace M22
structure gX where
 c:Int
 rows:List ((Int)×List (Int))
 bn:Int
 bw:List (Int)
def g:Sg gX where
 vs:=[.agg [.it .i64,.arr (.pair (.int .i64) (.sl (.int .u64)))],.agg [.it .i64,.arr (.int .u64)]]
 h:=[]
 to:=fun a b=>⟨a.1.1,a.1.2.1,a.2.1.1,a.2.1.2.1⟩
 fa:=fun x=>((x.c,(x.rows,())),((x.bn,(x.bw,())),()))
 fh:=fun x=>()
abbrev fY:=Int×List (Int)×Int
def f:Ft fY where
 ord:=none
 sh:=.tup [.inr [.it .i64,.arr (.int .u64)],.inl (.it .i64)]
 h:=[]
 to:=fun a b=>(a.1.1,a.1.2.1,a.2.1)
 fv:=fun y=>((y.1,(y.2.1,())),(y.2.2,()))
 fh:=fun y=>()
def cl:List (FuncId×Con):=[(50,M50.con),(38,M38.con),(73,M73.con),(74,M74.con),(75,M75.con),(76,M76o.con)]
theorem Q5:QG Try.prog cl:=⟨M50.Q1,M38.Q1,M73.Q1,M74.Q1,M75.Q1,M76o.Q1,trivial⟩
def E2:Env:=⟨ty,QL cl,fun _=>none,none⟩
structure p1X where
 mo_lo:Nat
 mo_len:Nat
 mo_cap:Nat
 n:Int
 i:Int
 c:Int
 rows:List ((Int)×List (Int))
 bn:Int
 bw:List (Int)
 side:List ((Int)×List (Int))
 rs:List ((Int)×List (Int))
 ms:List ((Int)×List (Int))
 wr_lo:Nat
 wr_len:Nat
 wr_cap:Nat
 wm_lo:Nat
 wm_len:Nat
 wm_cap:Nat
 wp_lo:Nat
 wp_len:Nat
 ps:List (Int)
 ws:List (Int)
 xn:Int
 xw_lo:Nat
 xw_len:Nat
 xw_cap:Nat
def p1:Pt p1X where
 own:=[]
 t:=⟨[(4,.c (.ptr 2 0)),(10,.c (.ptr 6 0)),(11,.c (.ptr 9 0)),(64,.c (.slc 5 0 2)),(65,.c (.it .i64)),(66,.c (.it .i64))],[.st [.it .i64,.arr (.pair (.int .i64) (.sl (.int .u64)))] 1 0,.st [.it .i64,.arr (.int .u64)] 1 0,.st [.junk,.junk] 1 0,.arr (.pair (.int .i64) (.sl (.int .u64))) 0,.arr (.pair (.int .i64) (.sl (.int .u64))) 0,.arr (.pair (.int .i64) (.sl (.int .u64))) 0,.st [.slc 4 0 2,.slc 5 0 2,.sl 7 0 1] 1 0,.arr (.int .i64) 0,.arr (.int .u64) 0,.st [.it .i64,.slc 8 0 1] 1 0]⟩
 to:=fun v=>⟨v.1.2.2.2.1.1,v.1.2.2.2.1.2.1,v.1.2.2.2.1.2.2,v.1.2.2.2.2.1,v.1.2.2.2.2.2.1,v.2.1.1,v.2.1.2.1,v.2.2.1.1,v.2.2.1.2.1,v.2.2.2.2.1,v.2.2.2.2.2.1,v.2.2.2.2.2.2.1,v.2.2.2.2.2.2.2.1.1.1,v.2.2.2.2.2.2.2.1.1.2.1,v.2.2.2.2.2.2.2.1.1.2.2,v.2.2.2.2.2.2.2.1.2.1.1,v.2.2.2.2.2.2.2.1.2.1.2.1,v.2.2.2.2.2.2.2.1.2.1.2.2,v.2.2.2.2.2.2.2.1.2.2.1.1,v.2.2.2.2.2.2.2.1.2.2.1.2,v.2.2.2.2.2.2.2.2.1,v.2.2.2.2.2.2.2.2.2.1,v.2.2.2.2.2.2.2.2.2.2.1.1,v.2.2.2.2.2.2.2.2.2.2.1.2.1.1,v.2.2.2.2.2.2.2.2.2.2.1.2.1.2.1,v.2.2.2.2.2.2.2.2.2.2.1.2.1.2.2⟩
 fr:=fun x=>(((),((),((),((x.mo_lo,x.mo_len,x.mo_cap),(x.n,(x.i,())))))),((x.c,(x.rows,())),((x.bn,(x.bw,())),(((),((),())),(x.side,(x.rs,(x.ms,(((x.wr_lo,x.wr_len,x.wr_cap),((x.wm_lo,x.wm_len,x.wm_cap),((x.wp_lo,x.wp_len),()))),(x.ps,(x.ws,((x.xn,((x.xw_lo,x.xw_len,x.xw_cap),())),())))))))))))
structure q1X where
 c:Int
 rows:List ((Int)×List (Int))
 bn:Int
 bw:List (Int)
 side:List ((Int)×List (Int))
 rs:List ((Int)×List (Int))
 ms:List ((Int)×List (Int))
 wr_lo:Nat
 wr_len:Nat
 wr_cap:Nat
 wm_lo:Nat
 wm_len:Nat
 wm_cap:Nat
 wp_lo:Nat
 wp_len:Nat
 ps:List (Int)
 ws:List (Int)
 xn:Int
 xw_lo:Nat
 xw_len:Nat
 xw_cap:Nat
def q1:Pt q1X where
 own:=[]
 t:=⟨[(4,.c (.ptr 2 0)),(11,.c (.ptr 9 0))],[.st [.it .i64,.arr (.pair (.int .i64) (.sl (.int .u64)))] 1 0,.st [.it .i64,.arr (.int .u64)] 1 0,.st [.junk,.junk] 1 0,.arr (.pair (.int .i64) (.sl (.int .u64))) 0,.arr (.pair (.int .i64) (.sl (.int .u64))) 0,.arr (.pair (.int .i64) (.sl (.int .u64))) 0,.st [.slc 4 0 2,.slc 5 0 2,.sl 7 0 1] 1 0,.arr (.int .i64) 0,.arr (.int .u64) 0,.st [.it .i64,.slc 8 0 1] 1 0]⟩
 to:=fun v=>⟨v.2.1.1,v.2.1.2.1,v.2.2.1.1,v.2.2.1.2.1,v.2.2.2.2.1,v.2.2.2.2.2.1,v.2.2.2.2.2.2.1,v.2.2.2.2.2.2.2.1.1.1,v.2.2.2.2.2.2.2.1.1.2.1,v.2.2.2.2.2.2.2.1.1.2.2,v.2.2.2.2.2.2.2.1.2.1.1,v.2.2.2.2.2.2.2.1.2.1.2.1,v.2.2.2.2.2.2.2.1.2.1.2.2,v.2.2.2.2.2.2.2.1.2.2.1.1,v.2.2.2.2.2.2.2.1.2.2.1.2,v.2.2.2.2.2.2.2.2.1,v.2.2.2.2.2.2.2.2.2.1,v.2.2.2.2.2.2.2.2.2.2.1.1,v.2.2.2.2.2.2.2.2.2.2.1.2.1.1,v.2.2.2.2.2.2.2.2.2.2.1.2.1.2.1,v.2.2.2.2.2.2.2.2.2.2.1.2.1.2.2⟩
 fr:=fun x=>(((),((),())),((x.c,(x.rows,())),((x.bn,(x.bw,())),(((),((),())),(x.side,(x.rs,(x.ms,(((x.wr_lo,x.wr_len,x.wr_cap),((x.wm_lo,x.wm_len,x.wm_cap),((x.wp_lo,x.wp_len),()))),(x.ps,(x.ws,((x.xn,((x.xw_lo,x.xw_len,x.xw_cap),())),())))))))))))
structure z1X where
 e:Int
 rn:Int
def z1:Pt z1X where
 own:=[]
 t:=⟨[(4,.c (.ptr 2 0)),(5,.c (.it .i64))],[.st [.junk,.junk] 1 0,.st [.junk,.junk] 1 0,.st [.it .i64,.nils] 1 0]⟩
 to:=fun v=>⟨v.1.2.1,v.2.2.2.1.1⟩
 fr:=fun x=>(((),(x.e,())),(((),((),())),(((),((),())),((x.rn,((),())),()))))
def s1(x:p1X):Option (p1X⊕(q1X⊕z1X)):=bif decide (x.i<x.n) then bif inR x.i x.mo_len then bif decide (x.mo_lo+x.i.toNat<x.ms.length) then Q0 (M74.m ⟨(x.ms[x.mo_lo+x.i.toNat]?.getD (0,[])).1,(x.ms[x.mo_lo+x.i.toNat]?.getD (0,[])).2,0⟩) fun y=>bif !y then some (Sum.inl ⟨x.mo_lo,x.mo_len,x.mo_cap,x.n,IntKind.i64.wrap (x.i+1),x.c,x.rows,x.bn,x.bw,x.side,x.rs,x.ms,x.wr_lo,x.wr_len,x.wr_cap,x.wm_lo,x.wm_len,x.wm_cap,x.wp_lo,x.wp_len,x.ps,x.ws,x.xn,x.xw_lo,x.xw_len,x.xw_cap⟩) else bif decide (x.i≥(↑x.wp_len:Int)) then some (Sum.inr (Sum.inr ⟨9,0⟩)) else bif inR x.i x.wp_len then bif decide (x.wp_lo+x.i.toNat<x.ps.length) then Q0 (M75.m ⟨x.xn,x.xw_lo,x.xw_len,x.xw_cap,x.ps[x.wp_lo+x.i.toNat]?.getD 0,x.ws⟩) fun y=>some (Sum.inl ⟨x.mo_lo,x.mo_len,x.mo_cap,x.n,IntKind.i64.wrap (x.i+1),x.c,x.rows,x.bn,x.bw,x.side,x.rs,x.ms,x.wr_lo,x.wr_len,x.wr_cap,x.wm_lo,x.wm_len,x.wm_cap,x.wp_lo,x.wp_len,x.ps,y,x.xn,x.xw_lo,x.xw_len,x.xw_cap⟩) else none else none else none else none else some (Sum.inr (Sum.inl ⟨x.c,x.rows,x.bn,x.bw,x.side,x.rs,x.ms,x.wr_lo,x.wr_len,x.wr_cap,x.wm_lo,x.wm_len,x.wm_cap,x.wp_lo,x.wp_len,x.ps,x.ws,x.xn,x.xw_lo,x.xw_len,x.xw_cap⟩))
theorem JZ(x:p1X):exec E2 95 (C22.Q2 1) 2 (p1.R x) (p1.H x) (J3 0 p1 (.exit 2) q1 .ret z1)=s1 x:=by kernel_rfl
def l1:QS:=J4 0 p1 (.exit 2) q1 .ret z1 s1
theorem tl1:QI (C22.Q2 1) 2=[]:=by kernel_rfl
theorem Jb  :QF Try.prog 95 none 0 (C22.Q2 1) l1:=Qc mixed (Q8 QC Q5 _) (by trivial) (by trivial) (fun _=>rfl) (fun _=>rfl) (fun _=>rfl) (tl1▸QB.nil) JZ
def E1:Env:=⟨ty,QL cl,JA [(1,l1)],none⟩
structure p0X where
 side_lo:Nat
 side_len:Nat
 side_cap:Nat
 n:Int
 i:Int
 c:Int
 rows:List ((Int)×List (Int))
 bn:Int
 bw:List (Int)
 side:List ((Int)×List (Int))
def p0:Pt p0X where
 own:=[]
 t:=⟨[(2,.c (.ptr 0 0)),(3,.c (.ptr 1 0)),(4,.c (.ptr 2 0)),(8,.c (.slc 3 0 2)),(38,.c (.it .i64)),(39,.c (.it .i64))],[.st [.it .i64,.arr (.pair (.int .i64) (.sl (.int .u64)))] 1 0,.st [.it .i64,.arr (.int .u64)] 1 0,.st [.junk,.junk] 1 0,.arr (.pair (.int .i64) (.sl (.int .u64))) 0]⟩
 to:=fun v=>⟨v.1.2.2.2.1.1,v.1.2.2.2.1.2.1,v.1.2.2.2.1.2.2,v.1.2.2.2.2.1,v.1.2.2.2.2.2.1,v.2.1.1,v.2.1.2.1,v.2.2.1.1,v.2.2.1.2.1,v.2.2.2.2.1⟩
 fr:=fun x=>(((),((),((),((x.side_lo,x.side_len,x.side_cap),(x.n,(x.i,())))))),((x.c,(x.rows,())),((x.bn,(x.bw,())),(((),((),())),(x.side,())))))
structure q0X where
 side_lo:Nat
 side_len:Nat
 side_cap:Nat
 c:Int
 rows:List ((Int)×List (Int))
 bn:Int
 bw:List (Int)
 side:List ((Int)×List (Int))
def q0:Pt q0X where
 own:=[]
 t:=⟨[(2,.c (.ptr 0 0)),(4,.c (.ptr 2 0)),(8,.c (.slc 3 0 2))],[.st [.it .i64,.arr (.pair (.int .i64) (.sl (.int .u64)))] 1 0,.st [.it .i64,.arr (.int .u64)] 1 0,.st [.junk,.junk] 1 0,.arr (.pair (.int .i64) (.sl (.int .u64))) 0]⟩
 to:=fun v=>⟨v.1.2.2.1.1,v.1.2.2.1.2.1,v.1.2.2.1.2.2,v.2.1.1,v.2.1.2.1,v.2.2.1.1,v.2.2.1.2.1,v.2.2.2.2.1⟩
 fr:=fun x=>(((),((),((x.side_lo,x.side_len,x.side_cap),()))),((x.c,(x.rows,())),((x.bn,(x.bw,())),(((),((),())),(x.side,())))))
def s0(x:p0X):Option (p0X⊕q0X):=bif decide (x.i<x.n) then Q0 (M73.m ⟨1⟩) fun y=>bif inR x.i x.side_len then bif decide (x.side_lo+x.i.toNat<x.side.length) then Q0 (M74.m ⟨x.bn,x.bw,x.i⟩) fun y_1=>bif y_1 then bif inR x.i x.side_len then bif eqN (x.side_lo+x.i.toNat) (List.take (x.side_lo+x.i.toNat) x.side).length then Q0 (M75.m ⟨y.1,y.2.1,y.2.2.1,y.2.2.2.1,0,y.2.2.2.2⟩) fun y_2=>bif leB (y.2.1+y.2.2.1) (List.length y_2)&&true&&true then some (Sum.inl ⟨x.side_lo,x.side_len,x.side_cap,x.n,IntKind.i64.wrap (x.i+1),x.c,x.rows,x.bn,x.bw,List.take (x.side_lo+x.i.toNat) x.side++(y.1,List.take y.2.2.1 (List.drop y.2.1 y_2))::List.drop (x.side_lo+x.i.toNat+1) x.side⟩) else none else none else none else bif leB (y.2.1+y.2.2.1) y.2.2.2.2.length&&true&&true then some (Sum.inl ⟨x.side_lo,x.side_len,x.side_cap,x.n,IntKind.i64.wrap (x.i+1),x.c,x.rows,x.bn,x.bw,List.take (x.side_lo+x.i.toNat) x.side++(y.1,List.take y.2.2.1 (List.drop y.2.1 y.2.2.2.2))::List.drop (x.side_lo+x.i.toNat+1) x.side⟩) else none else none else none else some (Sum.inr ⟨x.side_lo,x.side_len,x.side_cap,x.c,x.rows,x.bn,x.bw,x.side⟩)
theorem QV(x:p0X):exec E1 95 (C22.Q2 0) 1 (p0.R x) (p0.H x) (Qq 0 p0 (.exit 0) q0)=s0 x:=by kernel_rfl
def l0:QS:=Qr 0 p0 (.exit 0) q0 s0
theorem tl0:QI (C22.Q2 0) 1=[]:=by kernel_rfl
theorem QW  :QF Try.prog 95 none 0 (C22.Q2 0) l0:=QQ mixed (Q8 QC Q5 _) (by trivial) (fun _=>rfl) (fun _=>rfl) (tl0▸QB.nil) QV
def E0:Env:=⟨ty,QL cl,JA [(0,l0),(1,l1)],none⟩
def m(x:gX):Option fY:=Q0 (M50.m ⟨x.c,x.rows⟩) fun y=>bif y !=0 then some (0,[],y) else Q0 (M38.m ⟨x.bn,x.bw⟩) fun y=>bif y !=0 then some (0,[],y) else bif x.bn !=(↑x.rows.length:Int) then some (0,[],8) else bif decide (0≤(↑x.rows.length:Int))&&decide ((↑x.rows.length:Int)≤(↑x.rows.length:Int))&&decide ((↑x.rows.length:Int)*(↑32:Int)≤281474976710656)&&decide ((↑x.rows.length:Int)≤9223372036854775807) then Q0 (iter s0 ⟨0,(↑x.rows.length:Int).toNat,(↑x.rows.length:Int).toNat,(↑(↑x.rows.length:Int).toNat:Int),0,x.c,x.rows,x.bn,x.bw,List.replicate (↑x.rows.length:Int).toNat (0,[])⟩) fun y=>Q0 (M76o.m ⟨y.c,y.rows,y.side_lo,y.side_len,y.side_cap,y.side⟩) fun y_1=>Q0 (M73.m ⟨y.c⟩) fun y_2=>Q0 (iter s1 ⟨y_1.2.2.2.2.2.2.1,y_1.2.2.2.2.2.2.2.1,y_1.2.2.2.2.2.2.2.2.1,(↑y_1.2.2.2.2.2.2.2.1:Int),0,y.c,y.rows,y.bn,y.bw,y_1.1,y_1.2.1,y_1.2.2.1,y_1.2.2.2.1,y_1.2.2.2.2.1,y_1.2.2.2.2.2.1,y_1.2.2.2.2.2.2.1,y_1.2.2.2.2.2.2.2.1,y_1.2.2.2.2.2.2.2.2.1,y_1.2.2.2.2.2.2.2.2.2.1,y_1.2.2.2.2.2.2.2.2.2.2.1,y_1.2.2.2.2.2.2.2.2.2.2.2,y_2.2.2.2.2,y_2.1,y_2.2.1,y_2.2.2.1,y_2.2.2.2.1⟩) fun s=>J6 s (fun y=>bif leB (y.xw_lo+y.xw_len) y.ws.length&&true&&true&&true&&true then some (y.xn,List.take y.xw_len (List.drop y.xw_lo y.ws),0) else none) fun z=>some (z.rn,[],z.e) else none
theorem QJ(x:gX):exec E0 95 C22 0 (QN 0 (g.A x)) (g.H x) (finish 0 ty [.cell 4 34,.tmp 5] f)=m x:=by kernel_rfl
theorem tl:QI C22 0=[(0,C22.Q2 0),(1,C22.Q2 1)]:=by kernel_rfl
theorem known:QM Try.prog 22 g f m:=
 Q9 mixed (Q8 QC Q5 _) s22 rfl rfl tl (QB.cons rfl QW (QB.cons rfl Jb QB.nil)) (fun _ _=>⟨rfl,rfl⟩) (fun _ _=>⟨rfl,rfl⟩) QJ
def con:Con:=Qx g f m default
theorem Q1:QO Try.prog 22 con:=QE known (fun _=>rfl) rfl
end M22
end Go.Proofs.Ytddaobhpffpmoaa
namespace Go.Proofs.Ytddaobhpffpmoaa
open Go.Abs
set_option maxRecDepth 100000
namespace M22j
structure gX where
 c:Int
 rows:List ((Int)×List (Int))
 bn:Int
 bw:List (Int)
def g:Sg gX where
 vs:=[.agg [.it .i64,.arr (.pair (.int .i64) (.sl (.int .u64)))],.agg [.it .i64,.arr (.int .u64)]]
 h:=[]
 to:=fun a b=>⟨a.1.1,a.1.2.1,a.2.1.1,a.2.1.2.1⟩
 fa:=fun x=>((x.c,(x.rows,())),((x.bn,(x.bw,())),()))
 fh:=fun x=>()
abbrev fY:=Int
def f:Ft fY where
 ord:=none
 sh:=.tup [.inr [.junk,.junk],.inl (.it .i64)]
 h:=[]
 to:=fun a b=>(a.2.1)
 fv:=fun y=>(((),((),())),(y,()))
 fh:=fun y=>()
def cl:List (FuncId×Con):=[(50,M50.con),(38,M38.con),(73,M73.con),(74,M74.con),(75,M75.con),(76,M76o.con)]
theorem Q5:QG Try.prog cl:=⟨M50.Q1,M38.Q1,M73.Q1,M74.Q1,M75.Q1,M76o.Q1,trivial⟩
def E2:Env:=⟨ty,QL cl,fun _=>none,none⟩
structure p1X where
 mo_lo:Nat
 mo_len:Nat
 mo_cap:Nat
 n:Int
 i:Int
 c:Int
 rows:List ((Int)×List (Int))
 bn:Int
 bw:List (Int)
 side:List ((Int)×List (Int))
 rs:List ((Int)×List (Int))
 ms:List ((Int)×List (Int))
 wr_lo:Nat
 wr_len:Nat
 wr_cap:Nat
 wm_lo:Nat
 wm_len:Nat
 wm_cap:Nat
 wp_lo:Nat
 wp_len:Nat
 ps:List (Int)
 ws:List (Int)
 xn:Int
 xw_lo:Nat
 xw_len:Nat
 xw_cap:Nat
def p1:Pt p1X where
 own:=[]
 t:=⟨[(4,.c (.ptr 2 0)),(10,.c (.ptr 6 0)),(11,.c (.ptr 9 0)),(64,.c (.slc 5 0 2)),(65,.c (.it .i64)),(66,.c (.it .i64))],[.st [.it .i64,.arr (.pair (.int .i64) (.sl (.int .u64)))] 1 0,.st [.it .i64,.arr (.int .u64)] 1 0,.st [.junk,.junk] 1 0,.arr (.pair (.int .i64) (.sl (.int .u64))) 0,.arr (.pair (.int .i64) (.sl (.int .u64))) 0,.arr (.pair (.int .i64) (.sl (.int .u64))) 0,.st [.slc 4 0 2,.slc 5 0 2,.sl 7 0 1] 1 0,.arr (.int .i64) 0,.arr (.int .u64) 0,.st [.it .i64,.slc 8 0 1] 1 0]⟩
 to:=fun v=>⟨v.1.2.2.2.1.1,v.1.2.2.2.1.2.1,v.1.2.2.2.1.2.2,v.1.2.2.2.2.1,v.1.2.2.2.2.2.1,v.2.1.1,v.2.1.2.1,v.2.2.1.1,v.2.2.1.2.1,v.2.2.2.2.1,v.2.2.2.2.2.1,v.2.2.2.2.2.2.1,v.2.2.2.2.2.2.2.1.1.1,v.2.2.2.2.2.2.2.1.1.2.1,v.2.2.2.2.2.2.2.1.1.2.2,v.2.2.2.2.2.2.2.1.2.1.1,v.2.2.2.2.2.2.2.1.2.1.2.1,v.2.2.2.2.2.2.2.1.2.1.2.2,v.2.2.2.2.2.2.2.1.2.2.1.1,v.2.2.2.2.2.2.2.1.2.2.1.2,v.2.2.2.2.2.2.2.2.1,v.2.2.2.2.2.2.2.2.2.1,v.2.2.2.2.2.2.2.2.2.2.1.1,v.2.2.2.2.2.2.2.2.2.2.1.2.1.1,v.2.2.2.2.2.2.2.2.2.2.1.2.1.2.1,v.2.2.2.2.2.2.2.2.2.2.1.2.1.2.2⟩
 fr:=fun x=>(((),((),((),((x.mo_lo,x.mo_len,x.mo_cap),(x.n,(x.i,())))))),((x.c,(x.rows,())),((x.bn,(x.bw,())),(((),((),())),(x.side,(x.rs,(x.ms,(((x.wr_lo,x.wr_len,x.wr_cap),((x.wm_lo,x.wm_len,x.wm_cap),((x.wp_lo,x.wp_len),()))),(x.ps,(x.ws,((x.xn,((x.xw_lo,x.xw_len,x.xw_cap),())),())))))))))))
structure q1X where
 c:Int
 rows:List ((Int)×List (Int))
 bn:Int
 bw:List (Int)
 side:List ((Int)×List (Int))
 rs:List ((Int)×List (Int))
 ms:List ((Int)×List (Int))
 wr_lo:Nat
 wr_len:Nat
 wr_cap:Nat
 wm_lo:Nat
 wm_len:Nat
 wm_cap:Nat
 wp_lo:Nat
 wp_len:Nat
 ps:List (Int)
 ws:List (Int)
 xn:Int
 xw_lo:Nat
 xw_len:Nat
 xw_cap:Nat
def q1:Pt q1X where
 own:=[]
 t:=⟨[(4,.c (.ptr 2 0)),(11,.c (.ptr 9 0))],[.st [.it .i64,.arr (.pair (.int .i64) (.sl (.int .u64)))] 1 0,.st [.it .i64,.arr (.int .u64)] 1 0,.st [.junk,.junk] 1 0,.arr (.pair (.int .i64) (.sl (.int .u64))) 0,.arr (.pair (.int .i64) (.sl (.int .u64))) 0,.arr (.pair (.int .i64) (.sl (.int .u64))) 0,.st [.slc 4 0 2,.slc 5 0 2,.sl 7 0 1] 1 0,.arr (.int .i64) 0,.arr (.int .u64) 0,.st [.it .i64,.slc 8 0 1] 1 0]⟩
 to:=fun v=>⟨v.2.1.1,v.2.1.2.1,v.2.2.1.1,v.2.2.1.2.1,v.2.2.2.2.1,v.2.2.2.2.2.1,v.2.2.2.2.2.2.1,v.2.2.2.2.2.2.2.1.1.1,v.2.2.2.2.2.2.2.1.1.2.1,v.2.2.2.2.2.2.2.1.1.2.2,v.2.2.2.2.2.2.2.1.2.1.1,v.2.2.2.2.2.2.2.1.2.1.2.1,v.2.2.2.2.2.2.2.1.2.1.2.2,v.2.2.2.2.2.2.2.1.2.2.1.1,v.2.2.2.2.2.2.2.1.2.2.1.2,v.2.2.2.2.2.2.2.2.1,v.2.2.2.2.2.2.2.2.2.1,v.2.2.2.2.2.2.2.2.2.2.1.1,v.2.2.2.2.2.2.2.2.2.2.1.2.1.1,v.2.2.2.2.2.2.2.2.2.2.1.2.1.2.1,v.2.2.2.2.2.2.2.2.2.2.1.2.1.2.2⟩
 fr:=fun x=>(((),((),())),((x.c,(x.rows,())),((x.bn,(x.bw,())),(((),((),())),(x.side,(x.rs,(x.ms,(((x.wr_lo,x.wr_len,x.wr_cap),((x.wm_lo,x.wm_len,x.wm_cap),((x.wp_lo,x.wp_len),()))),(x.ps,(x.ws,((x.xn,((x.xw_lo,x.xw_len,x.xw_cap),())),())))))))))))
structure z1X where
 e:Int
 rn:Int
def z1:Pt z1X where
 own:=[]
 t:=⟨[(4,.c (.ptr 2 0)),(5,.c (.it .i64))],[.st [.junk,.junk] 1 0,.st [.junk,.junk] 1 0,.st [.it .i64,.nils] 1 0]⟩
 to:=fun v=>⟨v.1.2.1,v.2.2.2.1.1⟩
 fr:=fun x=>(((),(x.e,())),(((),((),())),(((),((),())),((x.rn,((),())),()))))
def s1(x:p1X):Option (p1X⊕(q1X⊕z1X)):=bif decide (x.i<x.n) then bif inR x.i x.mo_len then bif decide (x.mo_lo+x.i.toNat<x.ms.length) then Q0 (M74.m ⟨(x.ms[x.mo_lo+x.i.toNat]?.getD (0,[])).1,(x.ms[x.mo_lo+x.i.toNat]?.getD (0,[])).2,0⟩) fun y=>bif !y then some (Sum.inl ⟨x.mo_lo,x.mo_len,x.mo_cap,x.n,IntKind.i64.wrap (x.i+1),x.c,x.rows,x.bn,x.bw,x.side,x.rs,x.ms,x.wr_lo,x.wr_len,x.wr_cap,x.wm_lo,x.wm_len,x.wm_cap,x.wp_lo,x.wp_len,x.ps,x.ws,x.xn,x.xw_lo,x.xw_len,x.xw_cap⟩) else bif decide (x.i≥(↑x.wp_len:Int)) then some (Sum.inr (Sum.inr ⟨9,0⟩)) else bif inR x.i x.wp_len then bif decide (x.wp_lo+x.i.toNat<x.ps.length) then Q0 (M75.m ⟨x.xn,x.xw_lo,x.xw_len,x.xw_cap,x.ps[x.wp_lo+x.i.toNat]?.getD 0,x.ws⟩) fun y=>some (Sum.inl ⟨x.mo_lo,x.mo_len,x.mo_cap,x.n,IntKind.i64.wrap (x.i+1),x.c,x.rows,x.bn,x.bw,x.side,x.rs,x.ms,x.wr_lo,x.wr_len,x.wr_cap,x.wm_lo,x.wm_len,x.wm_cap,x.wp_lo,x.wp_len,x.ps,y,x.xn,x.xw_lo,x.xw_len,x.xw_cap⟩) else none else none else none else none else some (Sum.inr (Sum.inl ⟨x.c,x.rows,x.bn,x.bw,x.side,x.rs,x.ms,x.wr_lo,x.wr_len,x.wr_cap,x.wm_lo,x.wm_len,x.wm_cap,x.wp_lo,x.wp_len,x.ps,x.ws,x.xn,x.xw_lo,x.xw_len,x.xw_cap⟩))
theorem JZ(x:p1X):exec E2 95 (C22.Q2 1) 2 (p1.R x) (p1.H x) (J3 0 p1 (.exit 2) q1 .ret z1)=s1 x:=by kernel_rfl
def l1:QS:=J4 0 p1 (.exit 2) q1 .ret z1 s1
theorem tl1:QI (C22.Q2 1) 2=[]:=by kernel_rfl
theorem Jb  :QF Try.prog 95 none 0 (C22.Q2 1) l1:=Qc mixed (Q8 QC Q5 _) (by trivial) (by trivial) (fun _=>rfl) (fun _=>rfl) (fun _=>rfl) (tl1▸QB.nil) JZ
def E1:Env:=⟨ty,QL cl,JA [(1,l1)],none⟩
structure p0X where
 side_lo:Nat
 side_len:Nat
 side_cap:Nat
 n:Int
 i:Int
 c:Int
 rows:List ((Int)×List (Int))
 bn:Int
 bw:List (Int)
 side:List ((Int)×List (Int))
def p0:Pt p0X where
 own:=[]
 t:=⟨[(2,.c (.ptr 0 0)),(3,.c (.ptr 1 0)),(4,.c (.ptr 2 0)),(8,.c (.slc 3 0 2)),(38,.c (.it .i64)),(39,.c (.it .i64))],[.st [.it .i64,.arr (.pair (.int .i64) (.sl (.int .u64)))] 1 0,.st [.it .i64,.arr (.int .u64)] 1 0,.st [.junk,.junk] 1 0,.arr (.pair (.int .i64) (.sl (.int .u64))) 0]⟩
 to:=fun v=>⟨v.1.2.2.2.1.1,v.1.2.2.2.1.2.1,v.1.2.2.2.1.2.2,v.1.2.2.2.2.1,v.1.2.2.2.2.2.1,v.2.1.1,v.2.1.2.1,v.2.2.1.1,v.2.2.1.2.1,v.2.2.2.2.1⟩
 fr:=fun x=>(((),((),((),((x.side_lo,x.side_len,x.side_cap),(x.n,(x.i,())))))),((x.c,(x.rows,())),((x.bn,(x.bw,())),(((),((),())),(x.side,())))))
structure q0X where
 side_lo:Nat
 side_len:Nat
 side_cap:Nat
 c:Int
 rows:List ((Int)×List (Int))
 bn:Int
 bw:List (Int)
 side:List ((Int)×List (Int))
def q0:Pt q0X where
 own:=[]
 t:=⟨[(2,.c (.ptr 0 0)),(4,.c (.ptr 2 0)),(8,.c (.slc 3 0 2))],[.st [.it .i64,.arr (.pair (.int .i64) (.sl (.int .u64)))] 1 0,.st [.it .i64,.arr (.int .u64)] 1 0,.st [.junk,.junk] 1 0,.arr (.pair (.int .i64) (.sl (.int .u64))) 0]⟩
 to:=fun v=>⟨v.1.2.2.1.1,v.1.2.2.1.2.1,v.1.2.2.1.2.2,v.2.1.1,v.2.1.2.1,v.2.2.1.1,v.2.2.1.2.1,v.2.2.2.2.1⟩
 fr:=fun x=>(((),((),((x.side_lo,x.side_len,x.side_cap),()))),((x.c,(x.rows,())),((x.bn,(x.bw,())),(((),((),())),(x.side,())))))
def s0(x:p0X):Option (p0X⊕q0X):=bif decide (x.i<x.n) then Q0 (M73.m ⟨1⟩) fun y=>bif inR x.i x.side_len then bif decide (x.side_lo+x.i.toNat<x.side.length) then Q0 (M74.m ⟨x.bn,x.bw,x.i⟩) fun y_1=>bif y_1 then bif inR x.i x.side_len then bif eqN (x.side_lo+x.i.toNat) (List.take (x.side_lo+x.i.toNat) x.side).length then Q0 (M75.m ⟨y.1,y.2.1,y.2.2.1,y.2.2.2.1,0,y.2.2.2.2⟩) fun y_2=>bif leB (y.2.1+y.2.2.1) (List.length y_2)&&true&&true then some (Sum.inl ⟨x.side_lo,x.side_len,x.side_cap,x.n,IntKind.i64.wrap (x.i+1),x.c,x.rows,x.bn,x.bw,List.take (x.side_lo+x.i.toNat) x.side++(y.1,List.take y.2.2.1 (List.drop y.2.1 y_2))::List.drop (x.side_lo+x.i.toNat+1) x.side⟩) else none else none else none else bif leB (y.2.1+y.2.2.1) y.2.2.2.2.length&&true&&true then some (Sum.inl ⟨x.side_lo,x.side_len,x.side_cap,x.n,IntKind.i64.wrap (x.i+1),x.c,x.rows,x.bn,x.bw,List.take (x.side_lo+x.i.toNat) x.side++(y.1,List.take y.2.2.1 (List.drop y.2.1 y.2.2.2.2))::List.drop (x.side_lo+x.i.toNat+1) x.side⟩) else none else none else none else some (Sum.inr ⟨x.side_lo,x.side_len,x.side_cap,x.c,x.rows,x.bn,x.bw,x.side⟩)
theorem QV(x:p0X):exec E1 95 (C22.Q2 0) 1 (p0.R x) (p0.H x) (Qq 0 p0 (.exit 0) q0)=s0 x:=by kernel_rfl
def l0:QS:=Qr 0 p0 (.exit 0) q0 s0
theorem tl0:QI (C22.Q2 0) 1=[]:=by kernel_rfl
theorem QW  :QF Try.prog 95 none 0 (C22.Q2 0) l0:=QQ mixed (Q8 QC Q5 _) (by trivial) (fun _=>rfl) (fun _=>rfl) (tl0▸QB.nil) QV
def E0:Env:=⟨ty,QL cl,JA [(0,l0),(1,l1)],none⟩
def m(x:gX):Option fY:=Q0 (M50.m ⟨x.c,x.rows⟩) fun y=>bif y !=0 then some y else Q0 (M38.m ⟨x.bn,x.bw⟩) fun y=>bif y !=0 then some y else bif x.bn !=(↑x.rows.length:Int) then some 8 else bif decide (0≤(↑x.rows.length:Int))&&decide ((↑x.rows.length:Int)≤(↑x.rows.length:Int))&&decide ((↑x.rows.length:Int)*(↑32:Int)≤281474976710656)&&decide ((↑x.rows.length:Int)≤9223372036854775807) then Q0 (iter s0 ⟨0,(↑x.rows.length:Int).toNat,(↑x.rows.length:Int).toNat,(↑(↑x.rows.length:Int).toNat:Int),0,x.c,x.rows,x.bn,x.bw,List.replicate (↑x.rows.length:Int).toNat (0,[])⟩) fun y=>Q0 (M76o.m ⟨y.c,y.rows,y.side_lo,y.side_len,y.side_cap,y.side⟩) fun y_1=>Q0 (M73.m ⟨y.c⟩) fun y_2=>Q0 (iter s1 ⟨y_1.2.2.2.2.2.2.1,y_1.2.2.2.2.2.2.2.1,y_1.2.2.2.2.2.2.2.2.1,(↑y_1.2.2.2.2.2.2.2.1:Int),0,y.c,y.rows,y.bn,y.bw,y_1.1,y_1.2.1,y_1.2.2.1,y_1.2.2.2.1,y_1.2.2.2.2.1,y_1.2.2.2.2.2.1,y_1.2.2.2.2.2.2.1,y_1.2.2.2.2.2.2.2.1,y_1.2.2.2.2.2.2.2.2.1,y_1.2.2.2.2.2.2.2.2.2.1,y_1.2.2.2.2.2.2.2.2.2.2.1,y_1.2.2.2.2.2.2.2.2.2.2.2,y_2.2.2.2.2,y_2.1,y_2.2.1,y_2.2.2.1,y_2.2.2.2.1⟩) fun s=>J6 s (fun y=>some 0) fun z=>some z.e else none
theorem QJ(x:gX):exec E0 95 C22 0 (QN 0 (g.A x)) (g.H x) (finish 0 ty [.cell 4 34,.tmp 5] f)=m x:=by kernel_rfl
theorem tl:QI C22 0=[(0,C22.Q2 0),(1,C22.Q2 1)]:=by kernel_rfl
theorem known:QM Try.prog 22 g f m:=
 Q9 mixed (Q8 QC Q5 _) s22 rfl rfl tl (QB.cons rfl QW (QB.cons rfl Jb QB.nil)) (fun _ _=>⟨rfl,rfl⟩) (fun _ _=>⟨rfl,rfl⟩) QJ
def Wj:Con:=US g f m default
theorem ZY:QO Try.prog 22 Wj:=UR known (fun _=>rfl) (fun _=>rfl)
end M22j
end Go.Proofs.Ytddaobhpffpmoaa
namespace Go.Proofs.Ytddaobhpffpmoaa
open Go.Abs
set_option maxRecDepth 100000
namespace M103
structure gX where
 s:List (Int)
 v:Int
def g:Sg gX where
 vs:=[.c (.arr (.int .i64)),.c (.it .i64)]
 h:=[]
 to:=fun a b=>⟨a.1,a.2.1⟩
 fa:=fun x=>(x.s,(x.v,()))
 fh:=fun x=>()
abbrev fY:=Int
def f:Ft fY where
 ord:=none
 sh:=.c (.it .i64)
 h:=[]
 to:=fun a b=>(a)
 fv:=fun y=>y
 fh:=fun y=>()
def cl:List (FuncId×Con):=[]
theorem Q5:QG Try.prog cl:=trivial
def E1:Env:=⟨ty,QL cl,fun _=>none,none⟩
structure p0X where
 s:List (Int)
 v:Int
 n:Int
 i:Int
def p0:Pt p0X where
 own:=[]
 t:=⟨[(0,.c (.arr (.int .i64))),(1,.c (.it .i64)),(7,.c (.it .i64)),(8,.c (.it .i64))],[]⟩
 to:=fun v=>⟨v.1.1,v.1.2.1,v.1.2.2.1,v.1.2.2.2.1⟩
 fr:=fun x=>((x.s,(x.v,(x.n,(x.i,())))),())
abbrev q0X:=Unit
def q0:Pt q0X where
 own:=[]
 t:=⟨[],[]⟩
 to:=fun v=>()
 fr:=fun x=>((),())
structure z0X where
 r:Int
def z0:Pt z0X where
 own:=[]
 t:=⟨[(4,.c (.it .i64))],[]⟩
 to:=fun v=>⟨v.1.1⟩
 fr:=fun x=>((x.r,()),())
def s0(x:p0X):Option (p0X⊕(q0X⊕z0X)):=bif decide (x.i<x.n) then bif inR x.i x.s.length then bif x.v==x.s[x.i.toNat]?.getD 0 then some (Sum.inr (Sum.inr ⟨x.i⟩)) else some (Sum.inl ⟨x.s,x.v,x.n,IntKind.i64.wrap (x.i+1)⟩) else none else some (Sum.inr (Sum.inl PUnit.unit))
theorem QV(x:p0X):exec E1 19 (C103.Q2 0) 1 (p0.R x) (p0.H x) (J3 0 p0 (.exit 0) q0 .ret z0)=s0 x:=by kernel_rfl
def l0:QS:=J4 0 p0 (.exit 0) q0 .ret z0 s0
theorem tl0:QI (C103.Q2 0) 1=[]:=by kernel_rfl
theorem QW  :QF Try.prog 19 none 0 (C103.Q2 0) l0:=Qc mixed (Q8 QC Q5 _) (by trivial) (by trivial) (fun _=>rfl) (fun _=>rfl) (fun _=>rfl) (tl0▸QB.nil) QV
def E0:Env:=⟨ty,QL cl,JA [(0,l0)],none⟩
def m(x:gX):Option fY:=Q0 (iter s0 ⟨x.s,x.v,(↑x.s.length:Int),0⟩) fun s=>J6 s (fun y=>some (-1)) fun z=>some z.r
theorem QJ(x:gX):exec E0 19 C103 0 (QN 0 (g.A x)) (g.H x) (finish 0 ty [.tmp 4] f)=m x:=by kernel_rfl
theorem tl:QI C103 0=[(0,C103.Q2 0)]:=by kernel_rfl
theorem known:QM Try.prog 103 g f m:=
 Q9 mixed (Q8 QC Q5 _) s103 rfl rfl tl (QB.cons rfl QW QB.nil) (fun _ _=>⟨rfl,rfl⟩) (fun _ _=>⟨rfl,rfl⟩) QJ
def con:Con:=Qx g f m default
theorem Q1:QO Try.prog 103 con:=QE known (fun _=>rfl) rfl
end M103
namespace M77
structure gX where
 s:List (Int)
 v:Int
def g:Sg gX where
 vs:=[.c (.arr (.int .i64)),.c (.it .i64)]
 h:=[]
 to:=fun a b=>⟨a.1,a.2.1⟩
 fa:=fun x=>(x.s,(x.v,()))
 fh:=fun x=>()
abbrev fY:=Bool
def f:Ft fY where
 ord:=none
 sh:=.c (.bo)
 h:=[]
 to:=fun a b=>(a)
 fv:=fun y=>y
 fh:=fun y=>()
def cl:List (FuncId×Con):=[(103,M103.con)]
theorem Q5:QG Try.prog cl:=⟨M103.Q1,trivial⟩
def E0:Env:=⟨ty,QL cl,fun _=>none,none⟩
def m(x:gX):Option fY:=Q0 (M103.m ⟨x.s,x.v⟩) fun y=>some (decide (y≥0))
theorem QJ(x:gX):exec E0 9 C77 0 (QN 0 (g.A x)) (g.H x) (finish 0 ty [.tmp 4] f)=m x:=by kernel_rfl
theorem tl:QI C77 0=[]:=by kernel_rfl
theorem known:QM Try.prog 77 g f m:=
 Q9 mixed (Q8 QC Q5 _) s77 rfl rfl tl QB.nil (fun _ _=>⟨rfl,rfl⟩) (fun _ _=>⟨rfl,rfl⟩) QJ
def con:Con:=conF g f m default
theorem Q1:QO Try.prog 77 con:=conF_ok known (fun _=>rfl) (fun _=>rfl)
end M77
namespace M26
structure gX where
 c:Int
 rows:List ((Int)×List (Int))
def g:Sg gX where
 vs:=[.agg [.it .i64,.arr (.pair (.int .i64) (.sl (.int .u64)))]]
 h:=[]
 to:=fun a b=>⟨a.1.1,a.1.2.1⟩
 fa:=fun x=>((x.c,(x.rows,())),())
 fh:=fun x=>()
abbrev fY:=Int×Int
def f:Ft fY where
 ord:=none
 sh:=.tup [.inl (.it .i64),.inl (.it .i64)]
 h:=[]
 to:=fun a b=>(a.1,a.2.1)
 fv:=fun y=>(y.1,(y.2,()))
 fh:=fun y=>()
def cl:List (FuncId×Con):=[(50,M50.con),(76,M76.con)]
theorem Q5:QG Try.prog cl:=⟨M50.Q1,M76.Q1,trivial⟩
def E0:Env:=⟨ty,QL cl,fun _=>none,none⟩
def m(x:gX):Option fY:=Q0 (M50.m ⟨x.c,x.rows⟩) fun y=>bif y !=0 then some (0,y) else Q0 (M76.m ⟨x.c,x.rows,[]⟩) fun y=>some ((↑y.2.2.2.2.2.2.2.2.2.1:Int),0)
theorem QJ(x:gX):exec E0 16 C26 0 (QN 0 (g.A x)) (g.H x) (finish 0 ty [.tmp 2,.tmp 3] f)=m x:=by kernel_rfl
theorem tl:QI C26 0=[]:=by kernel_rfl
theorem known:QM Try.prog 26 g f m:=
 Q9 mixed (Q8 QC Q5 _) s26 rfl rfl tl QB.nil (fun _ _=>⟨rfl,rfl⟩) (fun _ _=>⟨rfl,rfl⟩) QJ
def con:Con:=Qx g f m default
theorem Q1:QO Try.prog 26 con:=QE known (fun _=>rfl) rfl
end M26
namespace M25
structure gX where
 c:Int
 rows:List ((Int)×List (Int))
def g:Sg gX where
 vs:=[.agg [.it .i64,.arr (.pair (.int .i64) (.sl (.int .u64)))]]
 h:=[]
 to:=fun a b=>⟨a.1.1,a.1.2.1⟩
 fa:=fun x=>((x.c,(x.rows,())),())
 fh:=fun x=>()
abbrev fY:=(List ((Int)×List (Int)))×Int
def f:Ft fY where
 ord:=none
 sh:=.tup [.inl (.arr (.pair (.int .i64) (.sl (.int .u64)))),.inl (.it .i64)]
 h:=[]
 to:=fun a b=>(a.1,a.2.1)
 fv:=fun y=>(y.1,(y.2,()))
 fh:=fun y=>()
def cl:List (FuncId×Con):=[(50,M50.con),(76,M76.con),(77,M77.con),(73,M73.con),(74,M74.con),(75,M75.con)]
theorem Q5:QG Try.prog cl:=⟨M50.Q1,M76.Q1,M77.Q1,M73.Q1,M74.Q1,M75.Q1,trivial⟩
def E2:Env:=⟨ty,QL cl,fun _=>none,none⟩
structure p1X where
 out_lo:Nat
 out_len:Nat
 out_cap:Nat
 n:Int
 i:Int
 k:Int
 pv_lo:Nat
 pv_len:Nat
 n2:Int
 i2:Int
 c:Int
 rows:List ((Int)×List (Int))
 rs:List ((Int)×List (Int))
 ms:List ((Int)×List (Int))
 wr_lo:Nat
 wr_len:Nat
 wr_cap:Nat
 wm_lo:Nat
 wm_len:Nat
 wm_cap:Nat
 wp_lo:Nat
 wp_len:Nat
 ps:List (Int)
 out:List ((Int)×List (Int))
 ws:List (Int)
 vn:Int
 vw_lo:Nat
 vw_len:Nat
 vw_cap:Nat
def p1:Pt p1X where
 own:=[]
 t:=⟨[(1,.c (.ptr 0 0)),(5,.c (.ptr 3 0)),(6,.c (.slc 5 0 2)),(28,.c (.it .i64)),(29,.c (.it .i64)),(7,.c (.it .i64)),(8,.c (.ptr 7 0)),(47,.c (.sl 4 0 1)),(48,.c (.it .i64)),(49,.c (.it .i64))],[.st [.it .i64,.arr (.pair (.int .i64) (.sl (.int .u64)))] 1 0,.arr (.pair (.int .i64) (.sl (.int .u64))) 0,.arr (.pair (.int .i64) (.sl (.int .u64))) 0,.st [.slc 1 0 2,.slc 2 0 2,.sl 4 0 1] 1 0,.arr (.int .i64) 0,.arr (.pair (.int .i64) (.sl (.int .u64))) 0,.arr (.int .u64) 0,.st [.it .i64,.slc 6 0 1] 1 0]⟩
 to:=fun v=>⟨v.1.2.2.1.1,v.1.2.2.1.2.1,v.1.2.2.1.2.2,v.1.2.2.2.1,v.1.2.2.2.2.1,v.1.2.2.2.2.2.1,v.1.2.2.2.2.2.2.2.1.1,v.1.2.2.2.2.2.2.2.1.2,v.1.2.2.2.2.2.2.2.2.1,v.1.2.2.2.2.2.2.2.2.2.1,v.2.1.1,v.2.1.2.1,v.2.2.1,v.2.2.2.1,v.2.2.2.2.1.1.1,v.2.2.2.2.1.1.2.1,v.2.2.2.2.1.1.2.2,v.2.2.2.2.1.2.1.1,v.2.2.2.2.1.2.1.2.1,v.2.2.2.2.1.2.1.2.2,v.2.2.2.2.1.2.2.1.1,v.2.2.2.2.1.2.2.1.2,v.2.2.2.2.2.1,v.2.2.2.2.2.2.1,v.2.2.2.2.2.2.2.1,v.2.2.2.2.2.2.2.2.1.1,v.2.2.2.2.2.2.2.2.1.2.1.1,v.2.2.2.2.2.2.2.2.1.2.1.2.1,v.2.2.2.2.2.2.2.2.1.2.1.2.2⟩
 fr:=fun x=>(((),((),((x.out_lo,x.out_len,x.out_cap),(x.n,(x.i,(x.k,((),((x.pv_lo,x.pv_len),(x.n2,(x.i2,())))))))))),((x.c,(x.rows,())),(x.rs,(x.ms,(((x.wr_lo,x.wr_len,x.wr_cap),((x.wm_lo,x.wm_len,x.wm_cap),((x.wp_lo,x.wp_len),()))),(x.ps,(x.out,(x.ws,((x.vn,((x.vw_lo,x.vw_len,x.vw_cap),())),())))))))))
structure q1X where
 out_lo:Nat
 out_len:Nat
 out_cap:Nat
 n:Int
 i:Int
 c:Int
 rows:List ((Int)×List (Int))
 rs:List ((Int)×List (Int))
 ms:List ((Int)×List (Int))
 wr_lo:Nat
 wr_len:Nat
 wr_cap:Nat
 wm_lo:Nat
 wm_len:Nat
 wm_cap:Nat
 wp_lo:Nat
 wp_len:Nat
 ps:List (Int)
 out:List ((Int)×List (Int))
 ws:List (Int)
 vn:Int
 vw_lo:Nat
 vw_len:Nat
 vw_cap:Nat
def q1:Pt q1X where
 own:=[]
 t:=⟨[(1,.c (.ptr 0 0)),(5,.c (.ptr 3 0)),(6,.c (.slc 5 0 2)),(28,.c (.it .i64)),(29,.c (.it .i64)),(8,.c (.ptr 7 0))],[.st [.it .i64,.arr (.pair (.int .i64) (.sl (.int .u64)))] 1 0,.arr (.pair (.int .i64) (.sl (.int .u64))) 0,.arr (.pair (.int .i64) (.sl (.int .u64))) 0,.st [.slc 1 0 2,.slc 2 0 2,.sl 4 0 1] 1 0,.arr (.int .i64) 0,.arr (.pair (.int .i64) (.sl (.int .u64))) 0,.arr (.int .u64) 0,.st [.it .i64,.slc 6 0 1] 1 0]⟩
 to:=fun v=>⟨v.1.2.2.1.1,v.1.2.2.1.2.1,v.1.2.2.1.2.2,v.1.2.2.2.1,v.1.2.2.2.2.1,v.2.1.1,v.2.1.2.1,v.2.2.1,v.2.2.2.1,v.2.2.2.2.1.1.1,v.2.2.2.2.1.1.2.1,v.2.2.2.2.1.1.2.2,v.2.2.2.2.1.2.1.1,v.2.2.2.2.1.2.1.2.1,v.2.2.2.2.1.2.1.2.2,v.2.2.2.2.1.2.2.1.1,v.2.2.2.2.1.2.2.1.2,v.2.2.2.2.2.1,v.2.2.2.2.2.2.1,v.2.2.2.2.2.2.2.1,v.2.2.2.2.2.2.2.2.1.1,v.2.2.2.2.2.2.2.2.1.2.1.1,v.2.2.2.2.2.2.2.2.1.2.1.2.1,v.2.2.2.2.2.2.2.2.1.2.1.2.2⟩
 fr:=fun x=>(((),((),((x.out_lo,x.out_len,x.out_cap),(x.n,(x.i,((),())))))),((x.c,(x.rows,())),(x.rs,(x.ms,(((x.wr_lo,x.wr_len,x.wr_cap),((x.wm_lo,x.wm_len,x.wm_cap),((x.wp_lo,x.wp_len),()))),(x.ps,(x.out,(x.ws,((x.vn,((x.vw_lo,x.vw_len,x.vw_cap),())),())))))))))
def s1(x:p1X):Option (p1X⊕q1X):=bif decide (x.i2<x.n2) then bif inR x.i2 x.pv_len then bif decide (x.pv_lo+x.i2.toNat<x.ps.length) then bif inR x.i2 x.wr_len then bif decide (x.wr_lo+x.i2.toNat<x.rs.length) then Q0 (M74.m ⟨(x.rs[x.wr_lo+x.i2.toNat]?.getD (0,[])).1,(x.rs[x.wr_lo+x.i2.toNat]?.getD (0,[])).2,x.k⟩) fun y=>bif y then Q0 (M75.m ⟨x.vn,x.vw_lo,x.vw_len,x.vw_cap,x.ps[x.pv_lo+x.i2.toNat]?.getD 0,x.ws⟩) fun y=>some (Sum.inl ⟨x.out_lo,x.out_len,x.out_cap,x.n,x.i,x.k,x.pv_lo,x.pv_len,x.n2,IntKind.i64.wrap (x.i2+1),x.c,x.rows,x.rs,x.ms,x.wr_lo,x.wr_len,x.wr_cap,x.wm_lo,x.wm_len,x.wm_cap,x.wp_lo,x.wp_len,x.ps,x.out,y,x.vn,x.vw_lo,x.vw_len,x.vw_cap⟩) else some (Sum.inl ⟨x.out_lo,x.out_len,x.out_cap,x.n,x.i,x.k,x.pv_lo,x.pv_len,x.n2,IntKind.i64.wrap (x.i2+1),x.c,x.rows,x.rs,x.ms,x.wr_lo,x.wr_len,x.wr_cap,x.wm_lo,x.wm_len,x.wm_cap,x.wp_lo,x.wp_len,x.ps,x.out,x.ws,x.vn,x.vw_lo,x.vw_len,x.vw_cap⟩) else none else none else none else none else some (Sum.inr ⟨x.out_lo,x.out_len,x.out_cap,x.n,x.i,x.c,x.rows,x.rs,x.ms,x.wr_lo,x.wr_len,x.wr_cap,x.wm_lo,x.wm_len,x.wm_cap,x.wp_lo,x.wp_len,x.ps,x.out,x.ws,x.vn,x.vw_lo,x.vw_len,x.vw_cap⟩)
theorem JZ(x:p1X):exec E2 73 (C25.Q2 1) 2 (p1.R x) (p1.H x) (Qq 0 p1 (.exit 2) q1)=s1 x:=by kernel_rfl
def l1:QS:=Qr 0 p1 (.exit 2) q1 s1
theorem tl1:QI (C25.Q2 1) 2=[]:=by kernel_rfl
theorem Jb  :QF Try.prog 73 none 0 (C25.Q2 1) l1:=QQ mixed (Q8 QC Q5 _) (by trivial) (fun _=>rfl) (fun _=>rfl) (tl1▸QB.nil) JZ
def E1:Env:=⟨ty,QL cl,JA [(1,l1)],none⟩
structure p0X where
 out_lo:Nat
 out_len:Nat
 out_cap:Nat
 n:Int
 i:Int
 c:Int
 rows:List ((Int)×List (Int))
 rs:List ((Int)×List (Int))
 ms:List ((Int)×List (Int))
 wr_lo:Nat
 wr_len:Nat
 wr_cap:Nat
 wm_lo:Nat
 wm_len:Nat
 wm_cap:Nat
 wp_lo:Nat
 wp_len:Nat
 ps:List (Int)
 out:List ((Int)×List (Int))
def p0:Pt p0X where
 own:=[]
 t:=⟨[(1,.c (.ptr 0 0)),(5,.c (.ptr 3 0)),(6,.c (.slc 5 0 2)),(28,.c (.it .i64)),(29,.c (.it .i64))],[.st [.it .i64,.arr (.pair (.int .i64) (.sl (.int .u64)))] 1 0,.arr (.pair (.int .i64) (.sl (.int .u64))) 0,.arr (.pair (.int .i64) (.sl (.int .u64))) 0,.st [.slc 1 0 2,.slc 2 0 2,.sl 4 0 1] 1 0,.arr (.int .i64) 0,.arr (.pair (.int .i64) (.sl (.int .u64))) 0]⟩
 to:=fun v=>⟨v.1.2.2.1.1,v.1.2.2.1.2.1,v.1.2.2.1.2.2,v.1.2.2.2.1,v.1.2.2.2.2.1,v.2.1.1,v.2.1.2.1,v.2.2.1,v.2.2.2.1,v.2.2.2.2.1.1.1,v.2.2.2.2.1.1.2.1,v.2.2.2.2.1.1.2.2,v.2.2.2.2.1.2.1.1,v.2.2.2.2.1.2.1.2.1,v.2.2.2.2.1.2.1.2.2,v.2.2.2.2.1.2.2.1.1,v.2.2.2.2.1.2.2.1.2,v.2.2.2.2.2.1,v.2.2.2.2.2.2.1⟩
 fr:=fun x=>(((),((),((x.out_lo,x.out_len,x.out_cap),(x.n,(x.i,()))))),((x.c,(x.rows,())),(x.rs,(x.ms,(((x.wr_lo,x.wr_len,x.wr_cap),((x.wm_lo,x.wm_len,x.wm_cap),((x.wp_lo,x.wp_len),()))),(x.ps,(x.out,())))))))
structure q0X where
 out_lo:Nat
 out_len:Nat
 out_cap:Nat
 c:Int
 rows:List ((Int)×List (Int))
 rs:List ((Int)×List (Int))
 ms:List ((Int)×List (Int))
 wr_lo:Nat
 wr_len:Nat
 wr_cap:Nat
 wm_lo:Nat
 wm_len:Nat
 wm_cap:Nat
 wp_lo:Nat
 wp_len:Nat
 ps:List (Int)
 out:List ((Int)×List (Int))
def q0:Pt q0X where
 own:=[]
 t:=⟨[(6,.c (.slc 5 0 2))],[.st [.it .i64,.arr (.pair (.int .i64) (.sl (.int .u64)))] 1 0,.arr (.pair (.int .i64) (.sl (.int .u64))) 0,.arr (.pair (.int .i64) (.sl (.int .u64))) 0,.st [.slc 1 0 2,.slc 2 0 2,.sl 4 0 1] 1 0,.arr (.int .i64) 0,.arr (.pair (.int .i64) (.sl (.int .u64))) 0]⟩
 to:=fun v=>⟨v.1.1.1,v.1.1.2.1,v.1.1.2.2,v.2.1.1,v.2.1.2.1,v.2.2.1,v.2.2.2.1,v.2.2.2.2.1.1.1,v.2.2.2.2.1.1.2.1,v.2.2.2.2.1.1.2.2,v.2.2.2.2.1.2.1.1,v.2.2.2.2.1.2.1.2.1,v.2.2.2.2.1.2.1.2.2,v.2.2.2.2.1.2.2.1.1,v.2.2.2.2.1.2.2.1.2,v.2.2.2.2.2.1,v.2.2.2.2.2.2.1⟩
 fr:=fun x=>(((x.out_lo,x.out_len,x.out_cap),()),((x.c,(x.rows,())),(x.rs,(x.ms,(((x.wr_lo,x.wr_len,x.wr_cap),((x.wm_lo,x.wm_len,x.wm_cap),((x.wp_lo,x.wp_len),()))),(x.ps,(x.out,())))))))
def s0(x:p0X):Option (p0X⊕q0X):=bif decide (x.i<x.n) then Q0 (bif leB (x.wp_lo+x.wp_len) x.ps.length&&true then M77.m ⟨List.take x.wp_len (List.drop x.wp_lo x.ps),x.i⟩ else none) fun y=>bif y then some (Sum.inl ⟨x.out_lo,x.out_len,x.out_cap,x.n,IntKind.i64.wrap (x.i+1),x.c,x.rows,x.rs,x.ms,x.wr_lo,x.wr_len,x.wr_cap,x.wm_lo,x.wm_len,x.wm_cap,x.wp_lo,x.wp_len,x.ps,x.out⟩) else Q0 (M73.m ⟨x.c⟩) fun y=>Q0 (M75.m ⟨y.1,y.2.1,y.2.2.1,y.2.2.2.1,x.i,y.2.2.2.2⟩) fun y_1=>Q0 (iter s1 ⟨x.out_lo,x.out_len,x.out_cap,x.n,x.i,x.i,x.wp_lo,x.wp_len,(↑x.wp_len:Int),0,x.c,x.rows,x.rs,x.ms,x.wr_lo,x.wr_len,x.wr_cap,x.wm_lo,x.wm_len,x.wm_cap,x.wp_lo,x.wp_len,x.ps,x.out,y_1,y.1,y.2.1,y.2.2.1,y.2.2.2.1⟩) fun y=>bif leB (y.out_len+1) y.out_cap&&leB (y.out_lo+y.out_cap) y.out.length then bif leB (y.vw_lo+y.vw_len) y.ws.length&&true&&true then some (Sum.inl ⟨y.out_lo,y.out_len+1,y.out_cap,y.n,IntKind.i64.wrap (y.i+1),y.c,y.rows,y.rs,y.ms,y.wr_lo,y.wr_len,y.wr_cap,y.wm_lo,y.wm_len,y.wm_cap,y.wp_lo,y.wp_len,y.ps,List.take (y.out_lo+y.out_len) y.out++(y.vn,List.take y.vw_len (List.drop y.vw_lo y.ws))::List.drop (y.out_lo+y.out_len+1) y.out⟩) else none else none else some (Sum.inr ⟨x.out_lo,x.out_len,x.out_cap,x.c,x.rows,x.rs,x.ms,x.wr_lo,x.wr_len,x.wr_cap,x.wm_lo,x.wm_len,x.wm_cap,x.wp_lo,x.wp_len,x.ps,x.out⟩)
theorem QV(x:p0X):exec E1 73 (C25.Q2 0) 1 (p0.R x) (p0.H x) (Qq 0 p0 (.exit 0) q0)=s0 x:=by kernel_rfl
def l0:QS:=Qr 0 p0 (.exit 0) q0 s0
theorem tl0:QI (C25.Q2 0) 1=[(1,C25.Q2 1)]:=by kernel_rfl
theorem QW  :QF Try.prog 73 none 0 (C25.Q2 0) l0:=QQ mixed (Q8 QC Q5 _) (by trivial) (fun _=>rfl) (fun _=>rfl) (tl0▸(QB.cons rfl Jb QB.nil)) QV
def E0:Env:=⟨ty,QL cl,JA [(0,l0),(1,l1)],none⟩
def m(x:gX):Option fY:=Q0 (M50.m ⟨x.c,x.rows⟩) fun y=>bif y !=0 then some ([],y) else Q0 (M76.m ⟨x.c,x.rows,[]⟩) fun y=>bif decide (0≤IntKind.i64.wrap (x.c - (↑y.2.2.2.2.2.2.2.2.2.1:Int)))&&decide (IntKind.i64.wrap (x.c - (↑y.2.2.2.2.2.2.2.2.2.1:Int))*(↑32:Int)≤281474976710656)&&decide (IntKind.i64.wrap (x.c - (↑y.2.2.2.2.2.2.2.2.2.1:Int))≤9223372036854775807) then Q0 (iter s0 ⟨0,0,(IntKind.i64.wrap (x.c - (↑y.2.2.2.2.2.2.2.2.2.1:Int))).toNat,x.c,0,x.c,x.rows,y.1,y.2.1,y.2.2.1,y.2.2.2.1,y.2.2.2.2.1,y.2.2.2.2.2.1,y.2.2.2.2.2.2.1,y.2.2.2.2.2.2.2.1,y.2.2.2.2.2.2.2.2.1,y.2.2.2.2.2.2.2.2.2.1,y.2.2.2.2.2.2.2.2.2.2,List.replicate (IntKind.i64.wrap (x.c - (↑y.2.2.2.2.2.2.2.2.2.1:Int))).toNat (0,[])⟩) fun y=>bif leB (y.out_lo+y.out_len) y.out.length&&true&&true&&true then some (List.take y.out_len (List.drop y.out_lo y.out),0) else none else none
theorem QJ(x:gX):exec E0 73 C25 0 (QN 0 (g.A x)) (g.H x) (finish 0 ty [.tmp 2,.tmp 3] f)=m x:=by kernel_rfl
theorem tl:QI C25 0=[(0,C25.Q2 0)]:=by kernel_rfl
theorem known:QM Try.prog 25 g f m:=
 Q9 mixed (Q8 QC Q5 _) s25 rfl rfl tl (QB.cons rfl QW QB.nil) (fun _ _=>⟨rfl,rfl⟩) (fun _ _=>⟨rfl,rfl⟩) QJ
def con:Con:=Qx g f m default
theorem Q1:QO Try.prog 25 con:=QE known (fun _=>rfl) rfl
end M25
end Go.Proofs.Ytddaobhpffpmoaa
namespace Go.Proofs.Ytddaobhpffpmoaa
open Go.Abs
set_option maxRecDepth 100000
namespace M87
structure gX where
 c:Int
 rows:List ((Int)×List (Int))
def g:Sg gX where
 vs:=[.agg [.it .i64,.arr (.pair (.int .i64) (.sl (.int .u64)))]]
 h:=[]
 to:=fun a b=>⟨a.1.1,a.1.2.1⟩
 fa:=fun x=>((x.c,(x.rows,())),())
 fh:=fun x=>()
abbrev fY:=Int×(List ((Int)×List (Int)))
def f:Ft fY where
 ord:=none
 sh:=.agg [.it .i64,.arr (.pair (.int .i64) (.sl (.int .u64)))]
 h:=[]
 to:=fun a b=>(a.1,a.2.1)
 fv:=fun y=>(y.1,(y.2,()))
 fh:=fun y=>()
def cl:List (FuncId×Con):=[(73,M73.con),(74,M74.con),(75,M75.con)]
theorem Q5:QG Try.prog cl:=⟨M73.Q1,M74.Q1,M75.Q1,trivial⟩
def E2:Env:=⟨ty,QL cl,fun _=>none,none⟩
structure p1X where
 n:Int
 i:Int
 k:Int
 l:List ((Int)×List (Int))
 n2:Int
 i2:Int
 c:Int
 rows:List ((Int)×List (Int))
 out:List ((Int)×List (Int))
 on:Int
 ow_lo:Nat
 ow_len:Nat
 ow_cap:Nat
 out_r:List ((Int)×List (Int))
 oc:Int
 or__lo:Nat
 or__len:Nat
 or__cap:Nat
 ws:List (Int)
def p1:Pt p1X where
 own:=[]
 t:=⟨[(1,.c (.ptr 0 0)),(2,.c (.ptr 1 0)),(3,.c (.ptr 3 0)),(16,.c (.it .i64)),(17,.c (.it .i64)),(4,.c (.it .i64)),(28,.c (.arr (.pair (.int .i64) (.sl (.int .u64))))),(29,.c (.it .i64)),(30,.c (.it .i64))],[.st [.it .i64,.arr (.pair (.int .i64) (.sl (.int .u64)))] 1 0,.st [.junk,.junk] 1 0,.opn (.pair (.int .i64) (.sl (.int .u64))) [.it .i64,.slc 4 0 1] 0,.st [.it .i64,.slc 2 0 2] 1 0,.arr (.int .u64) 0]⟩
 to:=fun v=>⟨v.1.2.2.2.1,v.1.2.2.2.2.1,v.1.2.2.2.2.2.1,v.1.2.2.2.2.2.2.1,v.1.2.2.2.2.2.2.2.1,v.1.2.2.2.2.2.2.2.2.1,v.2.1.1,v.2.1.2.1,v.2.2.2.1.1,v.2.2.2.1.2.1.1,v.2.2.2.1.2.1.2.1.1,v.2.2.2.1.2.1.2.1.2.1,v.2.2.2.1.2.1.2.1.2.2,v.2.2.2.1.2.2,v.2.2.2.2.1.1,v.2.2.2.2.1.2.1.1,v.2.2.2.2.1.2.1.2.1,v.2.2.2.2.1.2.1.2.2,v.2.2.2.2.2.1⟩
 fr:=fun x=>(((),((),((),(x.n,(x.i,(x.k,(x.l,(x.n2,(x.i2,()))))))))),((x.c,(x.rows,())),(((),((),())),((x.out,(x.on,((x.ow_lo,x.ow_len,x.ow_cap),())),x.out_r),((x.oc,((x.or__lo,x.or__len,x.or__cap),())),(x.ws,()))))))
structure q1X where
 n:Int
 i:Int
 c:Int
 rows:List ((Int)×List (Int))
 out:List ((Int)×List (Int))
 on:Int
 ow_lo:Nat
 ow_len:Nat
 ow_cap:Nat
 out_r:List ((Int)×List (Int))
 oc:Int
 or__lo:Nat
 or__len:Nat
 or__cap:Nat
 ws:List (Int)
def q1:Pt q1X where
 own:=[]
 t:=⟨[(1,.c (.ptr 0 0)),(2,.c (.ptr 1 0)),(3,.c (.ptr 3 0)),(16,.c (.it .i64)),(17,.c (.it .i64))],[.st [.it .i64,.arr (.pair (.int .i64) (.sl (.int .u64)))] 1 0,.st [.junk,.junk] 1 0,.opn (.pair (.int .i64) (.sl (.int .u64))) [.it .i64,.slc 4 0 1] 0,.st [.it .i64,.slc 2 0 2] 1 0,.arr (.int .u64) 0]⟩
 to:=fun v=>⟨v.1.2.2.2.1,v.1.2.2.2.2.1,v.2.1.1,v.2.1.2.1,v.2.2.2.1.1,v.2.2.2.1.2.1.1,v.2.2.2.1.2.1.2.1.1,v.2.2.2.1.2.1.2.1.2.1,v.2.2.2.1.2.1.2.1.2.2,v.2.2.2.1.2.2,v.2.2.2.2.1.1,v.2.2.2.2.1.2.1.1,v.2.2.2.2.1.2.1.2.1,v.2.2.2.2.1.2.1.2.2,v.2.2.2.2.2.1⟩
 fr:=fun x=>(((),((),((),(x.n,(x.i,()))))),((x.c,(x.rows,())),(((),((),())),((x.out,(x.on,((x.ow_lo,x.ow_len,x.ow_cap),())),x.out_r),((x.oc,((x.or__lo,x.or__len,x.or__cap),())),(x.ws,()))))))
def s1(x:p1X):Option (p1X⊕q1X):=bif decide (x.i2<x.n2) then bif inR x.i2 x.l.length then Q0 (M74.m ⟨(x.l[x.i2.toNat]?.getD (0,[])).1,(x.l[x.i2.toNat]?.getD (0,[])).2,x.k⟩) fun y=>bif y then bif inR x.k x.or__len then bif eqN (x.or__lo+x.k.toNat) x.out.length then Q0 (M75.m ⟨x.on,x.ow_lo,x.ow_len,x.ow_cap,x.i2,x.ws⟩) fun y=>some (Sum.inl ⟨x.n,x.i,x.k,x.l,x.n2,IntKind.i64.wrap (x.i2+1),x.c,x.rows,x.out,x.on,x.ow_lo,x.ow_len,x.ow_cap,x.out_r,x.oc,x.or__lo,x.or__len,x.or__cap,y⟩) else none else none else some (Sum.inl ⟨x.n,x.i,x.k,x.l,x.n2,IntKind.i64.wrap (x.i2+1),x.c,x.rows,x.out,x.on,x.ow_lo,x.ow_len,x.ow_cap,x.out_r,x.oc,x.or__lo,x.or__len,x.or__cap,x.ws⟩) else none else some (Sum.inr ⟨x.n,x.i,x.c,x.rows,x.out,x.on,x.ow_lo,x.ow_len,x.ow_cap,x.out_r,x.oc,x.or__lo,x.or__len,x.or__cap,x.ws⟩)
theorem JZ(x:p1X):exec E2 48 (C87.Q2 1) 2 (p1.R x) (p1.H x) (Qq 0 p1 (.exit 2) q1)=s1 x:=by kernel_rfl
def l1:QS:=Qr 0 p1 (.exit 2) q1 s1
theorem tl1:QI (C87.Q2 1) 2=[]:=by kernel_rfl
theorem Jb  :QF Try.prog 48 none 0 (C87.Q2 1) l1:=QQ mixed (Q8 QC Q5 _) (by trivial) (fun _=>rfl) (fun _=>rfl) (tl1▸QB.nil) JZ
def E1:Env:=⟨ty,QL cl,JA [(1,l1)],none⟩
structure p0X where
 n:Int
 i:Int
 c:Int
 rows:List ((Int)×List (Int))
 out:List ((Int)×List (Int))
 oc:Int
 or__lo:Nat
 or__len:Nat
 or__cap:Nat
def p0:Pt p0X where
 own:=[]
 t:=⟨[(1,.c (.ptr 0 0)),(2,.c (.ptr 1 0)),(3,.c (.ptr 3 0)),(16,.c (.it .i64)),(17,.c (.it .i64))],[.st [.it .i64,.arr (.pair (.int .i64) (.sl (.int .u64)))] 1 0,.st [.junk,.junk] 1 0,.arr (.pair (.int .i64) (.sl (.int .u64))) 0,.st [.it .i64,.slc 2 0 2] 1 0]⟩
 to:=fun v=>⟨v.1.2.2.2.1,v.1.2.2.2.2.1,v.2.1.1,v.2.1.2.1,v.2.2.2.1,v.2.2.2.2.1.1,v.2.2.2.2.1.2.1.1,v.2.2.2.2.1.2.1.2.1,v.2.2.2.2.1.2.1.2.2⟩
 fr:=fun x=>(((),((),((),(x.n,(x.i,()))))),((x.c,(x.rows,())),(((),((),())),(x.out,((x.oc,((x.or__lo,x.or__len,x.or__cap),())),())))))
structure q0X where
 c:Int
 rows:List ((Int)×List (Int))
 out:List ((Int)×List (Int))
 oc:Int
 or__lo:Nat
 or__len:Nat
 or__cap:Nat
def q0:Pt q0X where
 own:=[]
 t:=⟨[(2,.c (.ptr 1 0)),(3,.c (.ptr 3 0))],[.st [.it .i64,.arr (.pair (.int .i64) (.sl (.int .u64)))] 1 0,.st [.junk,.junk] 1 0,.arr (.pair (.int .i64) (.sl (.int .u64))) 0,.st [.it .i64,.slc 2 0 2] 1 0]⟩
 to:=fun v=>⟨v.2.1.1,v.2.1.2.1,v.2.2.2.1,v.2.2.2.2.1.1,v.2.2.2.2.1.2.1.1,v.2.2.2.2.1.2.1.2.1,v.2.2.2.2.1.2.1.2.2⟩
 fr:=fun x=>(((),((),())),((x.c,(x.rows,())),(((),((),())),(x.out,((x.oc,((x.or__lo,x.or__len,x.or__cap),())),())))))
def s0(x:p0X):Option (p0X⊕q0X):=bif decide (x.i<x.n) then Q0 (M73.m ⟨x.oc⟩) fun y=>bif inR x.i x.or__len then bif decide (x.or__lo+x.i.toNat<x.out.length) then Q0 (iter s1 ⟨x.n,x.i,x.i,x.rows,(↑x.rows.length:Int),0,x.c,x.rows,List.take (x.or__lo+x.i.toNat) x.out,y.1,y.2.1,y.2.2.1,y.2.2.2.1,List.drop (x.or__lo+x.i.toNat+1) x.out,x.oc,x.or__lo,x.or__len,x.or__cap,y.2.2.2.2⟩) fun y=>bif leB (y.ow_lo+y.ow_len) y.ws.length&&true&&true then some (Sum.inl ⟨y.n,IntKind.i64.wrap (y.i+1),y.c,y.rows,y.out++(y.on,List.take y.ow_len (List.drop y.ow_lo y.ws))::y.out_r,y.oc,y.or__lo,y.or__len,y.or__cap⟩) else none else none else none else some (Sum.inr ⟨x.c,x.rows,x.out,x.oc,x.or__lo,x.or__len,x.or__cap⟩)
theorem QV(x:p0X):exec E1 48 (C87.Q2 0) 1 (p0.R x) (p0.H x) (Qq 0 p0 (.exit 0) q0)=s0 x:=by kernel_rfl
def l0:QS:=Qr 0 p0 (.exit 0) q0 s0
theorem tl0:QI (C87.Q2 0) 1=[(1,C87.Q2 1)]:=by kernel_rfl
theorem QW  :QF Try.prog 48 none 0 (C87.Q2 0) l0:=QQ mixed (Q8 QC Q5 _) (by trivial) (fun _=>rfl) (fun _=>rfl) (tl0▸(QB.cons rfl Jb QB.nil)) QV
def E0:Env:=⟨ty,QL cl,JA [(0,l0),(1,l1)],none⟩
def m(x:gX):Option fY:=bif decide (0≤x.c)&&decide (x.c≤x.c)&&decide (x.c*(↑32:Int)≤281474976710656)&&decide (x.c≤9223372036854775807) then Q0 (iter s0 ⟨(↑x.c.toNat:Int),0,x.c,x.rows,List.replicate x.c.toNat (0,[]),(↑x.rows.length:Int),0,x.c.toNat,x.c.toNat⟩) fun y=>bif leB (y.or__lo+y.or__len) y.out.length&&true&&true&&true then some (y.oc,List.take y.or__len (List.drop y.or__lo y.out)) else none else none
theorem QJ(x:gX):exec E0 48 C87 0 (QN 0 (g.A x)) (g.H x) (finish 0 ty [.cell 2 40] f)=m x:=by kernel_rfl
theorem tl:QI C87 0=[(0,C87.Q2 0)]:=by kernel_rfl
theorem known:QM Try.prog 87 g f m:=
 Q9 mixed (Q8 QC Q5 _) s87 rfl rfl tl (QB.cons rfl QW QB.nil) (fun _ _=>⟨rfl,rfl⟩) (fun _ _=>⟨rfl,rfl⟩) QJ
def con:Con:=Qx g f m default
theorem Q1:QO Try.prog 87 con:=QE known (fun _=>rfl) rfl
end M87
namespace M40
structure gX where
 c:Int
 rows:List ((Int)×List (Int))
def g:Sg gX where
 vs:=[.agg [.it .i64,.arr (.pair (.int .i64) (.sl (.int .u64)))]]
 h:=[]
 to:=fun a b=>⟨a.1.1,a.1.2.1⟩
 fa:=fun x=>((x.c,(x.rows,())),())
 fh:=fun x=>()
abbrev fY:=Int×(List ((Int)×List (Int)))×Int
def f:Ft fY where
 ord:=none
 sh:=.tup [.inr [.it .i64,.arr (.pair (.int .i64) (.sl (.int .u64)))],.inl (.it .i64)]
 h:=[]
 to:=fun a b=>(a.1.1,a.1.2.1,a.2.1)
 fv:=fun y=>((y.1,(y.2.1,())),(y.2.2,()))
 fh:=fun y=>()
def cl:List (FuncId×Con):=[(50,M50.con),(87,M87.con)]
theorem Q5:QG Try.prog cl:=⟨M50.Q1,M87.Q1,trivial⟩
def E0:Env:=⟨ty,QL cl,fun _=>none,none⟩
def m(x:gX):Option fY:=Q0 (M50.m ⟨x.c,x.rows⟩) fun y=>bif y !=0 then some (0,[],y) else Q0 (M87.m ⟨x.c,x.rows⟩) fun y=>some (y.1,y.2,0)
theorem QJ(x:gX):exec E0 13 C40 0 (QN 0 (g.A x)) (g.H x) (finish 0 ty [.cell 2 40,.tmp 3] f)=m x:=by kernel_rfl
theorem tl:QI C40 0=[]:=by kernel_rfl
theorem known:QM Try.prog 40 g f m:=
 Q9 mixed (Q8 QC Q5 _) s40 rfl rfl tl QB.nil (fun _ _=>⟨rfl,rfl⟩) (fun _ _=>⟨rfl,rfl⟩) QJ
def con:Con:=Qx g f m default
theorem Q1:QO Try.prog 40 con:=QE known (fun _=>rfl) rfl
end M40
end Go.Proofs.Ytddaobhpffpmoaa
namespace Go.Proofs.Ytddaobhpffpmoaa
open Go.Abs
set_option maxRecDepth 100000
namespace M90
structure gX where
 a:List (Int)
 b:List (Int)
def g:Sg gX where
 vs:=[.c (.arr (.int .u64)),.c (.arr (.int .u64))]
 h:=[]
 to:=fun a b=>⟨a.1,a.2.1⟩
 fa:=fun x=>(x.a,(x.b,()))
 fh:=fun x=>()
abbrev fY:=Bool
def f:Ft fY where
 ord:=none
 sh:=.c (.bo)
 h:=[]
 to:=fun a b=>(a)
 fv:=fun y=>y
 fh:=fun y=>()
def cl:List (FuncId×Con):=[]
theorem Q5:QG Try.prog cl:=trivial
def E1:Env:=⟨ty,QL cl,fun _=>none,none⟩
structure p0X where
 a:List (Int)
 b:List (Int)
 n:Int
 i:Int
def p0:Pt p0X where
 own:=[]
 t:=⟨[(0,.c (.arr (.int .u64))),(1,.c (.arr (.int .u64))),(12,.c (.it .i64)),(13,.c (.it .i64))],[]⟩
 to:=fun v=>⟨v.1.1,v.1.2.1,v.1.2.2.1,v.1.2.2.2.1⟩
 fr:=fun x=>((x.a,(x.b,(x.n,(x.i,())))),())
abbrev q0X:=Unit
def q0:Pt q0X where
 own:=[]
 t:=⟨[],[]⟩
 to:=fun v=>()
 fr:=fun x=>((),())
structure z0X where
 r:Bool
def z0:Pt z0X where
 own:=[]
 t:=⟨[(4,.c (.bo))],[]⟩
 to:=fun v=>⟨v.1.1⟩
 fr:=fun x=>((x.r,()),())
def s0(x:p0X):Option (p0X⊕(q0X⊕z0X)):=bif decide (x.i<x.n) then bif inR x.i x.a.length then bif inR x.i x.b.length then bif x.a[x.i.toNat]?.getD 0 !=x.b[x.i.toNat]?.getD 0 then some (Sum.inr (Sum.inr ⟨false⟩)) else some (Sum.inl ⟨x.a,x.b,x.n,IntKind.i64.wrap (x.i+1)⟩) else none else none else some (Sum.inr (Sum.inl PUnit.unit))
theorem QV(x:p0X):exec E1 26 (C90.Q2 0) 1 (p0.R x) (p0.H x) (J3 0 p0 (.exit 0) q0 .ret z0)=s0 x:=by kernel_rfl
def l0:QS:=J4 0 p0 (.exit 0) q0 .ret z0 s0
theorem tl0:QI (C90.Q2 0) 1=[]:=by kernel_rfl
theorem QW  :QF Try.prog 26 none 0 (C90.Q2 0) l0:=Qc mixed (Q8 QC Q5 _) (by trivial) (by trivial) (fun _=>rfl) (fun _=>rfl) (fun _=>rfl) (tl0▸QB.nil) QV
def E0:Env:=⟨ty,QL cl,JA [(0,l0)],none⟩
def m(x:gX):Option fY:=bif (↑x.a.length:Int) !=(↑x.b.length:Int) then some false else Q0 (iter s0 ⟨x.a,x.b,(↑x.a.length:Int),0⟩) fun s=>J6 s (fun y=>some true) fun z=>some z.r
theorem QJ(x:gX):exec E0 26 C90 0 (QN 0 (g.A x)) (g.H x) (finish 0 ty [.tmp 4] f)=m x:=by kernel_rfl
theorem tl:QI C90 0=[(0,C90.Q2 0)]:=by kernel_rfl
theorem known:QM Try.prog 90 g f m:=
 Q9 mixed (Q8 QC Q5 _) s90 rfl rfl tl (QB.cons rfl QW QB.nil) (fun _ _=>⟨rfl,rfl⟩) (fun _ _=>⟨rfl,rfl⟩) QJ
def con:Con:=Qx g f m default
theorem Q1:QO Try.prog 90 con:=QE known (fun _=>rfl) rfl
end M90
namespace M89
structure gX where
 an:Int
 aw:List (Int)
 bn:Int
 bw:List (Int)
def g:Sg gX where
 vs:=[.agg [.it .i64,.arr (.int .u64)],.agg [.it .i64,.arr (.int .u64)]]
 h:=[]
 to:=fun a b=>⟨a.1.1,a.1.2.1,a.2.1.1,a.2.1.2.1⟩
 fa:=fun x=>((x.an,(x.aw,())),((x.bn,(x.bw,())),()))
 fh:=fun x=>()
abbrev fY:=Bool
def f:Ft fY where
 ord:=none
 sh:=.c (.bo)
 h:=[]
 to:=fun a b=>(a)
 fv:=fun y=>y
 fh:=fun y=>()
def cl:List (FuncId×Con):=[(90,M90.con)]
theorem Q5:QG Try.prog cl:=⟨M90.Q1,trivial⟩
def E0:Env:=⟨ty,QL cl,fun _=>none,none⟩
def m(x:gX):Option fY:=Q0 (bif x.an==x.bn then M90.m ⟨x.aw,x.bw⟩ else some false) fun y=>some (bif x.an==x.bn then y else false)
theorem QJ(x:gX):exec E0 17 C89 0 (QN 0 (g.A x)) (g.H x) (finish 0 ty [.tmp 4] f)=m x:=by kernel_rfl
theorem tl:QI C89 0=[]:=by kernel_rfl
theorem known:QM Try.prog 89 g f m:=
 Q9 mixed (Q8 QC Q5 _) s89 rfl rfl tl QB.nil (fun _ _=>⟨rfl,rfl⟩) (fun _ _=>⟨rfl,rfl⟩) QJ
def con:Con:=Qx g f m default
theorem Q1:QO Try.prog 89 con:=QE known (fun _=>rfl) rfl
end M89
namespace M88
structure gX where
 a:List ((Int)×List (Int))
 b:List ((Int)×List (Int))
def g:Sg gX where
 vs:=[.c (.arr (.pair (.int .i64) (.sl (.int .u64)))),.c (.arr (.pair (.int .i64) (.sl (.int .u64)))),.c (.fn 89)]
 h:=[]
 to:=fun a b=>⟨a.1,a.2.1⟩
 fa:=fun x=>(x.a,(x.b,((),())))
 fh:=fun x=>()
abbrev fY:=Bool
def f:Ft fY where
 ord:=none
 sh:=.c (.bo)
 h:=[]
 to:=fun a b=>(a)
 fv:=fun y=>y
 fh:=fun y=>()
def cl:List (FuncId×Con):=[(89,M89.con)]
theorem Q5:QG Try.prog cl:=⟨M89.Q1,trivial⟩
def E1:Env:=⟨ty,QL cl,fun _=>none,none⟩
structure p0X where
 b:List ((Int)×List (Int))
 l:List ((Int)×List (Int))
 n:Int
 i:Int
def p0:Pt p0X where
 own:=[]
 t:=⟨[(1,.c (.arr (.pair (.int .i64) (.sl (.int .u64))))),(2,.c (.fn 89)),(15,.c (.arr (.pair (.int .i64) (.sl (.int .u64))))),(16,.c (.it .i64)),(17,.c (.it .i64))],[]⟩
 to:=fun v=>⟨v.1.1,v.1.2.2.1,v.1.2.2.2.1,v.1.2.2.2.2.1⟩
 fr:=fun x=>((x.b,((),(x.l,(x.n,(x.i,()))))),())
abbrev q0X:=Unit
def q0:Pt q0X where
 own:=[]
 t:=⟨[],[]⟩
 to:=fun v=>()
 fr:=fun x=>((),())
structure z0X where
 r:Bool
def z0:Pt z0X where
 own:=[]
 t:=⟨[(6,.c (.bo))],[]⟩
 to:=fun v=>⟨v.1.1⟩
 fr:=fun x=>((x.r,()),())
def s0(x:p0X):Option (p0X⊕(q0X⊕z0X)):=bif decide (x.i<x.n) then bif inR x.i x.l.length then bif inR x.i x.b.length then Q0 (M89.m ⟨(x.l[x.i.toNat]?.getD (0,[])).1,(x.l[x.i.toNat]?.getD (0,[])).2,(x.b[x.i.toNat]?.getD (0,[])).1,(x.b[x.i.toNat]?.getD (0,[])).2⟩) fun y=>bif !y then some (Sum.inr (Sum.inr ⟨false⟩)) else some (Sum.inl ⟨x.b,x.l,x.n,IntKind.i64.wrap (x.i+1)⟩) else none else none else some (Sum.inr (Sum.inl PUnit.unit))
theorem QV(x:p0X):exec E1 32 (C88.Q2 0) 1 (p0.R x) (p0.H x) (J3 0 p0 (.exit 0) q0 .ret z0)=s0 x:=by kernel_rfl
def l0:QS:=J4 0 p0 (.exit 0) q0 .ret z0 s0
theorem tl0:QI (C88.Q2 0) 1=[]:=by kernel_rfl
theorem QW  :QF Try.prog 32 none 0 (C88.Q2 0) l0:=Qc mixed (Q8 QC Q5 _) (by trivial) (by trivial) (fun _=>rfl) (fun _=>rfl) (fun _=>rfl) (tl0▸QB.nil) QV
def E0:Env:=⟨ty,QL cl,JA [(0,l0)],none⟩
def m(x:gX):Option fY:=bif (↑x.a.length:Int) !=(↑x.b.length:Int) then some false else Q0 (iter s0 ⟨x.b,x.a,(↑x.a.length:Int),0⟩) fun s=>J6 s (fun y=>some true) fun z=>some z.r
theorem QJ(x:gX):exec E0 32 C88 0 (QN 0 (g.A x)) (g.H x) (finish 0 ty [.tmp 6] f)=m x:=by kernel_rfl
theorem tl:QI C88 0=[(0,C88.Q2 0)]:=by kernel_rfl
theorem known:QM Try.prog 88 g f m:=
 Q9 mixed (Q8 QC Q5 _) s88 rfl rfl tl (QB.cons rfl QW QB.nil) (fun _ _=>⟨rfl,rfl⟩) (fun _ _=>⟨rfl,rfl⟩) QJ
def con:Con:=Qx g f m default
theorem Q1:QO Try.prog 88 con:=QE known (fun _=>rfl) rfl
end M88
namespace M46
structure gX where
 ac:Int
 ar:List ((Int)×List (Int))
 bc:Int
 br:List ((Int)×List (Int))
def g:Sg gX where
 vs:=[.agg [.it .i64,.arr (.pair (.int .i64) (.sl (.int .u64)))],.agg [.it .i64,.arr (.pair (.int .i64) (.sl (.int .u64)))]]
 h:=[]
 to:=fun a b=>⟨a.1.1,a.1.2.1,a.2.1.1,a.2.1.2.1⟩
 fa:=fun x=>((x.ac,(x.ar,())),((x.bc,(x.br,())),()))
 fh:=fun x=>()
abbrev fY:=Bool
def f:Ft fY where
 ord:=none
 sh:=.c (.bo)
 h:=[]
 to:=fun a b=>(a)
 fv:=fun y=>y
 fh:=fun y=>()
def cl:List (FuncId×Con):=[(88,M88.con)]
theorem Q5:QG Try.prog cl:=⟨M88.Q1,trivial⟩
def E0:Env:=⟨ty,QL cl,fun _=>none,none⟩
def m(x:gX):Option fY:=Q0 (bif x.ac==x.bc then M88.m ⟨x.ar,x.br⟩ else some false) fun y=>some (bif x.ac==x.bc then y else false)
theorem QJ(x:gX):exec E0 17 C46 0 (QN 0 (g.A x)) (g.H x) (finish 0 ty [.tmp 4] f)=m x:=by kernel_rfl
theorem tl:QI C46 0=[]:=by kernel_rfl
theorem known:QM Try.prog 46 g f m:=
 Q9 mixed (Q8 QC Q5 _) s46 rfl rfl tl QB.nil (fun _ _=>⟨rfl,rfl⟩) (fun _ _=>⟨rfl,rfl⟩) QJ
def con:Con:=Qx g f m default
theorem Q1:QO Try.prog 46 con:=QE known (fun _=>rfl) rfl
def Wj:Con:=US g f m default
theorem ZY:QO Try.prog 46 Wj:=UR known (fun _=>rfl) (fun _=>rfl)
end M46
end Go.Proofs.Ytddaobhpffpmoaa
namespace Go.Proofs.Ytddaobhpffpmoaa
open Go.Abs
set_option maxRecDepth 100000
namespace M48
structure gX where
 n:Int
 w:List (Int)
def g:Sg gX where
 vs:=[.agg [.it .i64,.arr (.int .u64)]]
 h:=[]
 to:=fun a b=>⟨a.1.1,a.1.2.1⟩
 fa:=fun x=>((x.n,(x.w,())),())
 fh:=fun x=>()
abbrev fY:=Int×List (Int)
def f:Ft fY where
 ord:=none
 sh:=.agg [.it .i64,.arr (.int .u64)]
 h:=[]
 to:=fun a b=>(a.1,a.2.1)
 fv:=fun y=>(y.1,(y.2,()))
 fh:=fun y=>()
def cl:List (FuncId×Con):=[]
theorem Q5:QG Try.prog cl:=trivial
def E0:Env:=⟨ty,QL cl,fun _=>none,none⟩
def m(x:gX):Option fY:=bif QP x.w.length 8 then bif leB (0+x.w.length) x.w.length&&true&&true&&true then some (x.n,List.take x.w.length (List.drop 0 x.w)) else none else none
theorem QJ(x:gX):exec E0 10 C48 0 (QN 0 (g.A x)) (g.H x) (finish 0 ty [.cell 2 34] f)=m x:=by kernel_rfl
theorem tl:QI C48 0=[]:=by kernel_rfl
theorem known:QM Try.prog 48 g f m:=
 Q9 mixed (Q8 QC Q5 _) s48 rfl rfl tl QB.nil (fun _ _=>⟨rfl,rfl⟩) (fun _ _=>⟨rfl,rfl⟩) QJ
def con:Con:=Qx g f m default
theorem Q1:QO Try.prog 48 con:=QE known (fun _=>rfl) rfl
end M48
namespace M49
structure gX where
 n:Int
 w:List (Int)
def g:Sg gX where
 vs:=[.agg [.it .i64,.arr (.int .u64)]]
 h:=[]
 to:=fun a b=>⟨a.1.1,a.1.2.1⟩
 fa:=fun x=>((x.n,(x.w,())),())
 fh:=fun x=>()
abbrev fY:=Int
def f:Ft fY where
 ord:=none
 sh:=.c (.it .i64)
 h:=[]
 to:=fun a b=>(a)
 fv:=fun y=>y
 fh:=fun y=>()
def cl:List (FuncId×Con):=[]
theorem Q5:QG Try.prog cl:=trivial
def E0:Env:=⟨ty,QL cl,fun _=>none,none⟩
def m(x:gX):Option fY:=bif decide (x.n<0) then some 1 else bif decide (x.n>4096) then some 3 else bif (↑x.w.length:Int) !=IntKind.i64.wrap ((IntKind.i64.wrap (x.n+63)).tdiv 64) then some 8 else bif inR (IntKind.i64.wrap ((↑x.w.length:Int) - 1)) x.w.length||!decide (x.n.tmod 64>0) then bif decide (0≤x.n.tmod 64)||!decide (x.n.tmod 64>0) then bif bif decide (x.n.tmod 64>0) then Int.fdiv (x.w[(IntKind.i64.wrap ((↑x.w.length:Int) - 1)).toNat]?.getD 0) (2^min (x.n.tmod 64).toNat 64) !=0 else false then some 1 else some 0 else none else none
theorem QJ(x:gX):exec E0 40 C49 0 (QN 0 (g.A x)) (g.H x) (finish 0 ty [.tmp 2] f)=m x:=by kernel_rfl
theorem tl:QI C49 0=[]:=by kernel_rfl
theorem known:QM Try.prog 49 g f m:=
 Q9 mixed (Q8 QC Q5 _) s49 rfl rfl tl QB.nil (fun _ _=>⟨rfl,rfl⟩) (fun _ _=>⟨rfl,rfl⟩) QJ
def con:Con:=Qx g f m default
theorem Q1:QO Try.prog 49 con:=QE known (fun _=>rfl) rfl
end M49
end Go.Proofs.Ytddaobhpffpmoaa
