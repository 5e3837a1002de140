/- A part of the proof. -/
import Derived.Test.YtnmlmdlhhphcoaaER8QEx
import Derived.Test.YtnmlmdlhhphcoaaER8QEk
import Derived.Test.YtnmlmdlhhphcoaaER8QE9
set_option linter.all false
set_option maxRecDepth 100000
noncomputable section
namespace Go.Proofs.Ytnmlmdlhhphcoaa
open Go.Abs
namespace M10
abbrev gX:=Unit
def g:Sg gX:=⟨[],[],λa b=>(),λx=>(),λx=>()⟩
abbrev fY:=Bool
def f:Ft fY:=⟨none,.c (.bo),[],λa b=>(a),λy=>y,λy=>()⟩
def cl:List (FuncId×Con):=[(31,M31.con),(13,M13.con),(19,M19.con),(30,M30.con),(23,M23.con),(17,M17.con),(18,M18.con),(27,M27.con),(26,M26.con)]
theorem Q6:QT Try.prog cl:=⟨M31.Q5,M13.Q5,M19.Q5,M30.Q5,M23.Q5,M17.Q5,M18.Q5,M27.Q5,M26.Q5,trivial⟩
def E0:Env:=⟨ty,QJ cl,λ_=>none,none⟩
def m(x:gX):Option fY:=Q1 (M31.m ⟨[48,88,88,124,49]⟩) λy=>Q1 (M31.m ⟨[48,88,49,124,88]⟩) λy_1=>Q1 (M13.m ⟨y.1,y.2,y_1.1,y_1.2⟩) λy=>Q1 (M31.m ⟨[48,88,124]⟩) λy_2=>Q1 (M31.m ⟨[49,88,124]⟩) λy_3=>Q1 (M13.m ⟨y_2.1,y_2.2,y_3.1,y_3.2⟩) λy_4=>Q1 (M31.m ⟨[88,88,49,88,124,48,88]⟩) λy_5=>Q1 (M19.m ⟨y_5.1,y_5.2,2⟩) λy_6=>Q1 (M31.m ⟨[88,88,49,88,124,48,88]⟩) λy_7=>Q1 (M19.m ⟨y_7.1,y_7.2,1⟩) λy_8=>Q1 (M31.m ⟨[88,48,124,88]⟩) λy_9=>Q1 (M30.m ⟨y_9.1,y_9.2⟩) λy_10=>Q1 (bif !y.2.2 !=0 then M26.m ⟨y.1,y.2.1⟩ else some []) λy_11=>Q1 (bif !bif bif y.2.2 !=0 then true else !y_11==[48,88,49,124,49] then true else y_4.2.2 !=9 then M31.m ⟨[48,49,88,124,49]⟩ else some ([],[])) λy_12=>Q1 (bif !bif bif y.2.2 !=0 then true else !y_11==[48,88,49,124,49] then true else y_4.2.2 !=9 then M31.m ⟨[49,48,88,124,88]⟩ else some ([],[])) λy_13=>Q1 (bif !bif bif y.2.2 !=0 then true else !y_11==[48,88,49,124,49] then true else y_4.2.2 !=9 then M18.m ⟨y_12.1,y_12.2,y_13.1,y_13.2⟩ else some (Int.ofNat 0)) λy_14=>Q1 (bif !bif bif bif bif y.2.2 !=0 then true else !y_11==[48,88,49,124,49] then true else y_4.2.2 !=9 then true else y_14 !=2 then true else y_6.2.2 !=0 then M26.m ⟨y_6.1,y_6.2.1⟩ else some []) λy_15=>Q1 (bif !bif bif bif bif bif bif y.2.2 !=0 then true else !y_11==[48,88,49,124,49] then true else y_4.2.2 !=9 then true else y_14 !=2 then true else y_6.2.2 !=0 then true else !y_15==[49,49,49,49,124,48,48] then true else y_8.2.2 !=0 then M26.m ⟨y_8.1,y_8.2.1⟩ else some []) λy_16=>bif inR 1 y_10.1.length||!!bif bif bif bif bif bif bif bif bif y.2.2 !=0 then true else !y_11==[48,88,49,124,49] then true else y_4.2.2 !=9 then true else y_14 !=2 then true else y_6.2.2 !=0 then true else !y_15==[49,49,49,49,124,48,48] then true else y_8.2.2 !=0 then true else !y_16==[49,49,49,49,124,48,49] then true else y_10.2 !=0 then true else (↑y_10.1.length:Int) !=4 then Q1 (bif !bif bif bif bif bif bif bif bif bif y.2.2 !=0 then true else !y_11==[48,88,49,124,49] then true else y_4.2.2 !=9 then true else y_14 !=2 then true else y_6.2.2 !=0 then true else !y_15==[49,49,49,49,124,48,48] then true else y_8.2.2 !=0 then true else !y_16==[49,49,49,49,124,48,49] then true else y_10.2 !=0 then true else (↑y_10.1.length:Int) !=4 then M26.m ⟨(y_10.1[1]?.getD ([],[])).1,(y_10.1[1]?.getD ([],[])).2⟩ else some []) λy_17=>bif inR 2 y_10.1.length||!!bif bif bif bif bif bif bif bif bif bif y.2.2 !=0 then true else !y_11==[48,88,49,124,49] then true else y_4.2.2 !=9 then true else y_14 !=2 then true else y_6.2.2 !=0 then true else !y_15==[49,49,49,49,124,48,48] then true else y_8.2.2 !=0 then true else !y_16==[49,49,49,49,124,48,49] then true else y_10.2 !=0 then true else (↑y_10.1.length:Int) !=4 then true else !y_17==[48,48,124,49] then Q1 (bif !bif bif bif bif bif bif bif bif bif bif y.2.2 !=0 then true else !y_11==[48,88,49,124,49] then true else y_4.2.2 !=9 then true else y_14 !=2 then true else y_6.2.2 !=0 then true else !y_15==[49,49,49,49,124,48,48] then true else y_8.2.2 !=0 then true else !y_16==[49,49,49,49,124,48,49] then true else y_10.2 !=0 then true else (↑y_10.1.length:Int) !=4 then true else !y_17==[48,48,124,49] then M26.m ⟨(y_10.1[2]?.getD ([],[])).1,(y_10.1[2]?.getD ([],[])).2⟩ else some []) λy_18=>bif bif bif bif bif bif bif bif bif bif bif bif y.2.2 !=0 then true else !y_11==[48,88,49,124,49] then true else y_4.2.2 !=9 then true else y_14 !=2 then true else y_6.2.2 !=0 then true else !y_15==[49,49,49,49,124,48,48] then true else y_8.2.2 !=0 then true else !y_16==[49,49,49,49,124,48,49] then true else y_10.2 !=0 then true else (↑y_10.1.length:Int) !=4 then true else !y_17==[48,48,124,49] then true else !y_18==[49,48,124,48] then some false else Q1 (M31.m ⟨[48,49,49,124,48]⟩) λy=>Q1 (M23.m ⟨y.1,y.2,[0,3]⟩) λy=>Q1 (M27.m ⟨[48,49]⟩) λy_19=>Q1 (M27.m ⟨[48,124,50]⟩) λy_20=>Q1 (M27.m ⟨[124]⟩) λy_21=>Q1 (M31.m ⟨[88,49,124]⟩) λy_22=>Q1 (M31.m ⟨[48,49,124]⟩) λy_23=>Q1 (M17.m ⟨y_22.1,y_22.2,y_23.1,y_23.2⟩) λy_24=>Q1 (bif y_24 then M31.m ⟨[48,49,124]⟩ else some ([],[])) λy_25=>Q1 (bif y_24 then M31.m ⟨[88,49,124]⟩ else some ([],[])) λy_26=>Q1 (bif y_24 then M17.m ⟨y_25.1,y_25.2,y_26.1,y_26.2⟩ else some false) λy_27=>Q1 (bif bif bif y_24 then !y_27 else false then y.2.2==0 else false then M26.m ⟨y.1,y.2.1⟩ else some []) λy_28=>some (bif bif bif bif bif bif bif y_24 then !y_27 else false then y.2.2==0 else false then y_28==[88,49,49,124,88] else false then y_19.2.2==4 else false then y_20.2.2==4 else false then y_21.2.2==0 else false then IntKind.i64.wrap ((↑y_21.1.length:Int)+(↑y_21.2.1.length:Int))==0 else false) else none else none
theorem QW(x:gX):exec E0 162 C10 0 (QX 0 (g.A x)) (g.H x) (finish 0 ty [.tmp 0] f)=m x:=by kernel_rfl
theorem tl:QA C10 0=[]:=by kernel_rfl
theorem known:QV Try.prog 10 g f m:=
 QD mixed (Q7 Q9 Q6 _) s10 rfl rfl tl Q8.nil (λ_ _=>⟨rfl,rfl⟩) (λ_ _=>⟨rfl,rfl⟩) QW
def con:Con:=XI g f m default
theorem Q5:Qk Try.prog 10 con:=Qa known (λ_=>rfl) rfl
end M10
namespace M12
structure gX where(pi ps qi qs:List (Int))
def g:Sg gX:=⟨[.agg [.arr (.int .u8),.arr (.int .u8)],.agg [.arr (.int .u8),.arr (.int .u8)]],[],λa b=>⟨a.1.1,a.1.2.1,a.2.1.1,a.2.1.2.1⟩,λx=>((x.pi,(x.ps,())),((x.qi,(x.qs,())),())),λx=>()⟩
abbrev fY:=List (Int)×List (Int)
def f:Ft fY:=⟨none,.agg [.arr (.int .u8),.arr (.int .u8)],[],λa b=>(a.1,a.2.1),λy=>(y.1,(y.2,())),λy=>()⟩
def cl:List (FuncId×Con):=[]
theorem Q6:QT Try.prog cl:=trivial
def E2:Env:=⟨ty,QJ cl,λ_=>none,none⟩
structure p1X where(i:Int)(pi ps qi qs:List (Int))(oi_lo oi_len os_lo os_len:Nat)(xs ys:List (Int))
def p1:Pt p1X where
 own:=[.cell 3 1 (.int .u8)]
 t:=⟨[(2,.c (.ptr 0 0)),(3,.c (.ptr 1 0)),(4,.c (.ptr 2 0)),(5,.c (.ptr 3 0)),(8,.c (.it .i64))],[.st [.arr (.int .u8),.arr (.int .u8)] 1 0,.st [.arr (.int .u8),.arr (.int .u8)] 1 0,.st [.junk,.junk] 1 0,.st [.sl 4 0 1,.sl 5 0 1] 1 0,.arr (.int .u8) 0,.arr (.int .u8) 0]⟩
 to:=λv=>⟨v.1.2.2.2.2.1,v.2.1.1,v.2.1.2.1,v.2.2.1.1,v.2.2.1.2.1,v.2.2.2.2.1.1.1,v.2.2.2.2.1.1.2,v.2.2.2.2.1.2.1.1,v.2.2.2.2.1.2.1.2,v.2.2.2.2.2.1,v.2.2.2.2.2.2.1⟩
 fr:=λx=>(((),((),((),((),(x.i,()))))),((x.pi,(x.ps,())),((x.qi,(x.qs,())),(((),((),())),(((x.oi_lo,x.oi_len),((x.os_lo,x.os_len),())),(x.xs,(x.ys,())))))))
structure q1X where(pi ps qi qs:List (Int))(oi_lo oi_len os_lo os_len:Nat)(xs ys:List (Int))
def q1:Pt q1X where
 own:=[]
 t:=⟨[(4,.c (.ptr 2 0)),(5,.c (.ptr 3 0))],[.st [.arr (.int .u8),.arr (.int .u8)] 1 0,.st [.arr (.int .u8),.arr (.int .u8)] 1 0,.st [.junk,.junk] 1 0,.st [.sl 4 0 1,.sl 5 0 1] 1 0,.arr (.int .u8) 0,.arr (.int .u8) 0]⟩
 to:=λv=>⟨v.2.1.1,v.2.1.2.1,v.2.2.1.1,v.2.2.1.2.1,v.2.2.2.2.1.1.1,v.2.2.2.2.1.1.2,v.2.2.2.2.1.2.1.1,v.2.2.2.2.1.2.1.2,v.2.2.2.2.2.1,v.2.2.2.2.2.2.1⟩
 fr:=λx=>(((),((),())),((x.pi,(x.ps,())),((x.qi,(x.qs,())),(((),((),())),(((x.oi_lo,x.oi_len),((x.os_lo,x.os_len),())),(x.xs,(x.ys,())))))))
def s1(x:p1X):Option (p1X⊕q1X):=bif decide (x.i<(↑x.ps.length:Int)) then bif bif inR x.i x.qs.length&&true then true else bif decide (x.i<(↑x.qs.length:Int)) then false else true then bif eqN x.os_lo 0&&eqN x.ys.length x.os_len&&Qz (x.os_len+1) 1 then some (Sum.inl ⟨IntKind.i64.wrap (x.i+1),x.pi,x.ps,x.qi,x.qs,x.oi_lo,x.oi_len,0,x.os_len+1,x.xs,x.ys++[bif decide (x.i<(↑x.qs.length:Int)) then x.qs[x.i.toNat]?.getD 0 else 2]⟩) else none else none else some (Sum.inr ⟨x.pi,x.ps,x.qi,x.qs,x.oi_lo,x.oi_len,x.os_lo,x.os_len,x.xs,x.ys⟩)
theorem YT(x:p1X):exec E2 57 (C12.Q2 1) 2 (p1.R x) (p1.H x) (J4 0 p1 (.exit 2) q1)=s1 x:=by kernel_rfl
def l1:QB:=J5 0 p1 (.exit 2) q1 s1
theorem tl1:QA (C12.Q2 1) 2=[]:=by kernel_rfl
theorem Yd  :QH Try.prog 57 none 0 (C12.Q2 1) l1:=QQ mixed (Q7 Q9 Q6 _) (by trivial) (λ_=>rfl) (λ_=>rfl) (tl1▸Q8.nil) YT
def E1:Env:=⟨ty,QJ cl,JB [(1,l1)],none⟩
structure p0X where(i:Int)(pi ps qi qs:List (Int))(oi_lo oi_len:Nat)(xs:List (Int))
def p0:Pt p0X where
 own:=[.cell 3 0 (.int .u8)]
 t:=⟨[(2,.c (.ptr 0 0)),(3,.c (.ptr 1 0)),(4,.c (.ptr 2 0)),(5,.c (.ptr 3 0)),(6,.c (.it .i64))],[.st [.arr (.int .u8),.arr (.int .u8)] 1 0,.st [.arr (.int .u8),.arr (.int .u8)] 1 0,.st [.junk,.junk] 1 0,.st [.sl 4 0 1,.nils] 1 0,.arr (.int .u8) 0]⟩
 to:=λv=>⟨v.1.2.2.2.2.1,v.2.1.1,v.2.1.2.1,v.2.2.1.1,v.2.2.1.2.1,v.2.2.2.2.1.1.1,v.2.2.2.2.1.1.2,v.2.2.2.2.2.1⟩
 fr:=λx=>(((),((),((),((),(x.i,()))))),((x.pi,(x.ps,())),((x.qi,(x.qs,())),(((),((),())),(((x.oi_lo,x.oi_len),((),())),(x.xs,()))))))
structure q0X where(pi ps qi qs:List (Int))(oi_lo oi_len:Nat)(xs:List (Int))
def q0:Pt q0X where
 own:=[]
 t:=⟨[(2,.c (.ptr 0 0)),(3,.c (.ptr 1 0)),(4,.c (.ptr 2 0)),(5,.c (.ptr 3 0))],[.st [.arr (.int .u8),.arr (.int .u8)] 1 0,.st [.arr (.int .u8),.arr (.int .u8)] 1 0,.st [.junk,.junk] 1 0,.st [.sl 4 0 1,.nils] 1 0,.arr (.int .u8) 0]⟩
 to:=λv=>⟨v.2.1.1,v.2.1.2.1,v.2.2.1.1,v.2.2.1.2.1,v.2.2.2.2.1.1.1,v.2.2.2.2.1.1.2,v.2.2.2.2.2.1⟩
 fr:=λx=>(((),((),((),((),())))),((x.pi,(x.ps,())),((x.qi,(x.qs,())),(((),((),())),(((x.oi_lo,x.oi_len),((),())),(x.xs,()))))))
def s0(x:p0X):Option (p0X⊕q0X):=bif decide (x.i<(↑x.pi.length:Int)) then bif bif inR x.i x.qi.length&&true then true else bif decide (x.i<(↑x.qi.length:Int)) then false else true then bif eqN x.oi_lo 0&&eqN x.xs.length x.oi_len&&Qz (x.oi_len+1) 1 then some (Sum.inl ⟨IntKind.i64.wrap (x.i+1),x.pi,x.ps,x.qi,x.qs,0,x.oi_len+1,x.xs++[bif decide (x.i<(↑x.qi.length:Int)) then x.qi[x.i.toNat]?.getD 0 else 2]⟩) else none else none else some (Sum.inr ⟨x.pi,x.ps,x.qi,x.qs,x.oi_lo,x.oi_len,x.xs⟩)
theorem Qd(x:p0X):exec E1 57 (C12.Q2 0) 1 (p0.R x) (p0.H x) (J4 0 p0 (.exit 0) q0)=s0 x:=by kernel_rfl
def l0:QB:=J5 0 p0 (.exit 0) q0 s0
theorem tl0:QA (C12.Q2 0) 1=[]:=by kernel_rfl
theorem Qe  :QH Try.prog 57 none 0 (C12.Q2 0) l0:=QQ mixed (Q7 Q9 Q6 _) (by trivial) (λ_=>rfl) (λ_=>rfl) (tl0▸Q8.nil) Qd
def E0:Env:=⟨ty,QJ cl,JB [(0,l0),(1,l1)],none⟩
def m(x:gX):Option fY:=Q1 (iter s0 ⟨0,x.pi,x.ps,x.qi,x.qs,0,0,[]⟩) λy=>Q1 (iter s1 ⟨0,y.pi,y.ps,y.qi,y.qs,y.oi_lo,y.oi_len,0,0,y.xs,[]⟩) λy=>bif leB (y.oi_lo+y.oi_len) y.xs.length&&(leB (y.os_lo+y.os_len) y.ys.length&&true)&&true&&true then some (List.take y.oi_len (List.drop y.oi_lo y.xs),List.take y.os_len (List.drop y.os_lo y.ys)) else none
theorem QW(x:gX):exec E0 57 C12 0 (QX 0 (g.A x)) (g.H x) (finish 0 ty [.cell 4 24] f)=m x:=by kernel_rfl
theorem tl:QA C12 0=[(0,C12.Q2 0),(1,C12.Q2 1)]:=by kernel_rfl
theorem known:QV Try.prog 12 g f m:=
 QD mixed (Q7 Q9 Q6 _) s12 rfl rfl tl (Q8.cons rfl Qe (Q8.cons rfl Yd Q8.nil)) (λ_ _=>⟨rfl,rfl⟩) (λ_ _=>⟨rfl,rfl⟩) QW
def con:Con:=XI g f m default
theorem Q5:Qk Try.prog 12 con:=Qa known (λ_=>rfl) rfl
end M12
namespace M28
structure gX where(a b:List (Int))
def g:Sg gX:=⟨[.agg [.arr (.int .u8),.arr (.int .u8)]],[],λa b=>⟨a.1.1,a.1.2.1⟩,λx=>((x.a,(x.b,())),()),λx=>()⟩
abbrev fY:=List (Int)×List (Int)×Int
def f:Ft fY:=⟨none,.tup [.inr [.arr (.int .u8),.arr (.int .u8)],.inl (.it .i64)],[],λa b=>(a.1.1,a.1.2.1,a.2.1),λy=>((y.1,(y.2.1,())),(y.2.2,())),λy=>()⟩
def cl:List (FuncId×Con):=[]
theorem Q6:QT Try.prog cl:=trivial
def E2:Env:=⟨ty,QJ cl,λ_=>none,none⟩
structure p1X where(e i:Int)(a b:List (Int))(pi_lo pi_len ps_lo ps_len:Nat)(xs ys:List (Int))
def p1:Pt p1X where
 own:=[.cell 2 1 (.int .u8)]
 t:=⟨[(1,.c (.ptr 0 0)),(2,.c (.ptr 1 0)),(4,.c (.ptr 2 0)),(5,.c (.it .i64)),(7,.c (.it .i64))],[.st [.arr (.int .u8),.arr (.int .u8)] 1 0,.st [.junk,.junk] 1 0,.st [.sl 3 0 1,.sl 4 0 1] 1 0,.arr (.int .u8) 0,.arr (.int .u8) 0]⟩
 to:=λv=>⟨v.1.2.2.2.1,v.1.2.2.2.2.1,v.2.1.1,v.2.1.2.1,v.2.2.2.1.1.1,v.2.2.2.1.1.2,v.2.2.2.1.2.1.1,v.2.2.2.1.2.1.2,v.2.2.2.2.1,v.2.2.2.2.2.1⟩
 fr:=λx=>(((),((),((),(x.e,(x.i,()))))),((x.a,(x.b,())),(((),((),())),(((x.pi_lo,x.pi_len),((x.ps_lo,x.ps_len),())),(x.xs,(x.ys,()))))))
structure q1X where(e:Int)(a b:List (Int))(pi_lo pi_len ps_lo ps_len:Nat)(xs ys:List (Int))
def q1:Pt q1X where
 own:=[]
 t:=⟨[(2,.c (.ptr 1 0)),(4,.c (.ptr 2 0)),(5,.c (.it .i64))],[.st [.arr (.int .u8),.arr (.int .u8)] 1 0,.st [.junk,.junk] 1 0,.st [.sl 3 0 1,.sl 4 0 1] 1 0,.arr (.int .u8) 0,.arr (.int .u8) 0]⟩
 to:=λv=>⟨v.1.2.2.1,v.2.1.1,v.2.1.2.1,v.2.2.2.1.1.1,v.2.2.2.1.1.2,v.2.2.2.1.2.1.1,v.2.2.2.1.2.1.2,v.2.2.2.2.1,v.2.2.2.2.2.1⟩
 fr:=λx=>(((),((),(x.e,()))),((x.a,(x.b,())),(((),((),())),(((x.pi_lo,x.pi_len),((x.ps_lo,x.ps_len),())),(x.xs,(x.ys,()))))))
def s1(x:p1X):Option (p1X⊕q1X):=bif decide (x.i<(↑x.b.length:Int)) then bif inR x.i x.b.length then bif eqN x.ps_lo 0&&eqN x.ys.length x.ps_len&&Qz (x.ps_len+1) 1 then bif inR x.i x.b.length then some (Sum.inl ⟨bif decide (x.b[x.i.toNat]?.getD 0>2) then 1 else x.e,IntKind.i64.wrap (x.i+1),x.a,x.b,x.pi_lo,x.pi_len,0,x.ps_len+1,x.xs,x.ys++[x.b[x.i.toNat]?.getD 0]⟩) else none else none else none else some (Sum.inr ⟨x.e,x.a,x.b,x.pi_lo,x.pi_len,x.ps_lo,x.ps_len,x.xs,x.ys⟩)
theorem YT(x:p1X):exec E2 56 (C28.Q2 1) 2 (p1.R x) (p1.H x) (J4 0 p1 (.exit 2) q1)=s1 x:=by kernel_rfl
def l1:QB:=J5 0 p1 (.exit 2) q1 s1
theorem tl1:QA (C28.Q2 1) 2=[]:=by kernel_rfl
theorem Yd  :QH Try.prog 56 none 0 (C28.Q2 1) l1:=QQ mixed (Q7 Q9 Q6 _) (by trivial) (λ_=>rfl) (λ_=>rfl) (tl1▸Q8.nil) YT
def E1:Env:=⟨ty,QJ cl,JB [(1,l1)],none⟩
structure p0X where(e i:Int)(a b:List (Int))(pi_lo pi_len:Nat)(xs:List (Int))
def p0:Pt p0X where
 own:=[.cell 2 0 (.int .u8)]
 t:=⟨[(1,.c (.ptr 0 0)),(2,.c (.ptr 1 0)),(4,.c (.ptr 2 0)),(5,.c (.it .i64)),(6,.c (.it .i64))],[.st [.arr (.int .u8),.arr (.int .u8)] 1 0,.st [.junk,.junk] 1 0,.st [.sl 3 0 1,.nils] 1 0,.arr (.int .u8) 0]⟩
 to:=λv=>⟨v.1.2.2.2.1,v.1.2.2.2.2.1,v.2.1.1,v.2.1.2.1,v.2.2.2.1.1.1,v.2.2.2.1.1.2,v.2.2.2.2.1⟩
 fr:=λx=>(((),((),((),(x.e,(x.i,()))))),((x.a,(x.b,())),(((),((),())),(((x.pi_lo,x.pi_len),((),())),(x.xs,())))))
structure q0X where(e:Int)(a b:List (Int))(pi_lo pi_len:Nat)(xs:List (Int))
def q0:Pt q0X where
 own:=[]
 t:=⟨[(1,.c (.ptr 0 0)),(2,.c (.ptr 1 0)),(4,.c (.ptr 2 0)),(5,.c (.it .i64))],[.st [.arr (.int .u8),.arr (.int .u8)] 1 0,.st [.junk,.junk] 1 0,.st [.sl 3 0 1,.nils] 1 0,.arr (.int .u8) 0]⟩
 to:=λv=>⟨v.1.2.2.2.1,v.2.1.1,v.2.1.2.1,v.2.2.2.1.1.1,v.2.2.2.1.1.2,v.2.2.2.2.1⟩
 fr:=λx=>(((),((),((),(x.e,())))),((x.a,(x.b,())),(((),((),())),(((x.pi_lo,x.pi_len),((),())),(x.xs,())))))
def s0(x:p0X):Option (p0X⊕q0X):=bif decide (x.i<(↑x.a.length:Int)) then bif inR x.i x.a.length then bif eqN x.pi_lo 0&&eqN x.xs.length x.pi_len&&Qz (x.pi_len+1) 1 then bif inR x.i x.a.length then some (Sum.inl ⟨bif decide (x.a[x.i.toNat]?.getD 0>2) then 1 else x.e,IntKind.i64.wrap (x.i+1),x.a,x.b,0,x.pi_len+1,x.xs++[x.a[x.i.toNat]?.getD 0]⟩) else none else none else none else some (Sum.inr ⟨x.e,x.a,x.b,x.pi_lo,x.pi_len,x.xs⟩)
theorem Qd(x:p0X):exec E1 56 (C28.Q2 0) 1 (p0.R x) (p0.H x) (J4 0 p0 (.exit 0) q0)=s0 x:=by kernel_rfl
def l0:QB:=J5 0 p0 (.exit 0) q0 s0
theorem tl0:QA (C28.Q2 0) 1=[]:=by kernel_rfl
theorem Qe  :QH Try.prog 56 none 0 (C28.Q2 0) l0:=QQ mixed (Q7 Q9 Q6 _) (by trivial) (λ_=>rfl) (λ_=>rfl) (tl0▸Q8.nil) Qd
def E0:Env:=⟨ty,QJ cl,JB [(0,l0),(1,l1)],none⟩
def m(x:gX):Option fY:=Q1 (iter s0 ⟨0,0,x.a,x.b,0,0,[]⟩) λy=>Q1 (iter s1 ⟨y.e,0,y.a,y.b,y.pi_lo,y.pi_len,0,0,y.xs,[]⟩) λy=>bif leB (y.pi_lo+y.pi_len) y.xs.length&&(leB (y.ps_lo+y.ps_len) y.ys.length&&true)&&true&&true&&true then some (List.take y.pi_len (List.drop y.pi_lo y.xs),List.take y.ps_len (List.drop y.ps_lo y.ys),y.e) else none
theorem QW(x:gX):exec E0 56 C28 0 (QX 0 (g.A x)) (g.H x) (finish 0 ty [.cell 2 29,.tmp 3] f)=m x:=by kernel_rfl
theorem tl:QA C28 0=[(0,C28.Q2 0),(1,C28.Q2 1)]:=by kernel_rfl
theorem known:QV Try.prog 28 g f m:=
 QD mixed (Q7 Q9 Q6 _) s28 rfl rfl tl (Q8.cons rfl Qe (Q8.cons rfl Yd Q8.nil)) (λ_ _=>⟨rfl,rfl⟩) (λ_ _=>⟨rfl,rfl⟩) QW
def con:Con:=XI g f m default
theorem Q5:Qk Try.prog 28 con:=Qa known (λ_=>rfl) rfl
end M28
namespace M20
structure gX where(l:List (Int))(i v:Int)
def g:Sg gX:=⟨[.c (.arr (.int .u8)),.c (.it .i64),.c (.it .u8)],[],λa b=>⟨a.1,a.2.1,a.2.2.1⟩,λx=>(x.l,(x.i,(x.v,()))),λx=>()⟩
abbrev fY:=Int
def f:Ft fY:=⟨none,.c (.it .u8),[],λa b=>(a),λy=>y,λy=>()⟩
def cl:List (FuncId×Con):=[]
theorem Q6:QT Try.prog cl:=trivial
def E0:Env:=⟨ty,QJ cl,λ_=>none,none⟩
def m(x:gX):Option fY:=bif inR x.i x.l.length then bif x.l[x.i.toNat]?.getD 0 !=2 then bif inR x.i x.l.length then some (x.l[x.i.toNat]?.getD 0) else none else some x.v else none
theorem QW(x:gX):exec E0 17 C20 0 (QX 0 (g.A x)) (g.H x) (finish 0 ty [.tmp 6] f)=m x:=by kernel_rfl
theorem tl:QA C20 0=[]:=by kernel_rfl
theorem known:QV Try.prog 20 g f m:=
 QD mixed (Q7 Q9 Q6 _) s20 rfl rfl tl Q8.nil (λ_ _=>⟨rfl,rfl⟩) (λ_ _=>⟨rfl,rfl⟩) QW
def con:Con:=XI g f m default
theorem Q5:Qk Try.prog 20 con:=Qa known (λ_=>rfl) rfl
end M20
namespace M21
structure gX where(l:List (Int))(i:Int)
def g:Sg gX:=⟨[.c (.arr (.int .u8)),.c (.it .i64)],[],λa b=>⟨a.1,a.2.1⟩,λx=>(x.l,(x.i,())),λx=>()⟩
abbrev fY:=Int
def f:Ft fY:=⟨none,.c (.it .u8),[],λa b=>(a),λy=>y,λy=>()⟩
def cl:List (FuncId×Con):=[]
theorem Q6:QT Try.prog cl:=trivial
def E2:Env:=⟨ty,QJ cl,λ_=>none,none⟩
structure p1X where(l:List (Int))(k:Int)
def p1:Pt p1X where
 own:=[]
 t:=⟨[(0,.c (.arr (.int .u8))),(6,.c (.it .i64))],[]⟩
 to:=λv=>⟨v.1.1,v.1.2.1⟩
 fr:=λx=>((x.l,(x.k,())),())
abbrev q1X:=Unit
def q1:Pt q1X where
 own:=[]
 t:=⟨[],[]⟩
 to:=λv=>()
 fr:=λx=>((),())
structure z1X where(r:Int)
def z1:Pt z1X where
 own:=[]
 t:=⟨[(4,.c (.it .u8))],[]⟩
 to:=λv=>⟨v.1.1⟩
 fr:=λx=>((x.r,()),())
def s1(x:p1X):Option (p1X⊕(q1X⊕z1X)):=bif decide (x.k<(↑x.l.length:Int)) then bif inR x.k x.l.length then bif x.l[x.k.toNat]?.getD 0 !=2 then bif inR x.k x.l.length then some (Sum.inr (Sum.inr ⟨x.l[x.k.toNat]?.getD 0⟩)) else none else some (Sum.inl ⟨x.l,IntKind.i64.wrap (x.k+1)⟩) else none else some (Sum.inr (Sum.inl PUnit.unit))
theorem YT(x:p1X):exec E2 36 (C21.Q2 1) 2 (p1.R x) (p1.H x) (Jb 0 p1 (.exit 2) q1 .ret z1)=s1 x:=by kernel_rfl
def l1:QB:=Jc 0 p1 (.exit 2) q1 .ret z1 s1
theorem tl1:QA (C21.Q2 1) 2=[]:=by kernel_rfl
theorem Yd  :QH Try.prog 36 none 0 (C21.Q2 1) l1:=Ql mixed (Q7 Q9 Q6 _) (by trivial) (by trivial) (λ_=>rfl) (λ_=>rfl) (λ_=>rfl) (tl1▸Q8.nil) YT
def E1:Env:=⟨ty,QJ cl,JB [(1,l1)],none⟩
structure p0X where(l:List (Int))(k:Int)
def p0:Pt p0X where
 own:=[]
 t:=⟨[(0,.c (.arr (.int .u8))),(5,.c (.it .i64))],[]⟩
 to:=λv=>⟨v.1.1,v.1.2.1⟩
 fr:=λx=>((x.l,(x.k,())),())
structure q0X where(l:List (Int))
def q0:Pt q0X where
 own:=[]
 t:=⟨[(0,.c (.arr (.int .u8)))],[]⟩
 to:=λv=>⟨v.1.1⟩
 fr:=λx=>((x.l,()),())
structure z0X where(r:Int)
def z0:Pt z0X where
 own:=[]
 t:=⟨[(4,.c (.it .u8))],[]⟩
 to:=λv=>⟨v.1.1⟩
 fr:=λx=>((x.r,()),())
def s0(x:p0X):Option (p0X⊕(q0X⊕z0X)):=bif decide (x.k>=0) then bif inR x.k x.l.length then bif x.l[x.k.toNat]?.getD 0 !=2 then bif inR x.k x.l.length then some (Sum.inr (Sum.inr ⟨x.l[x.k.toNat]?.getD 0⟩)) else none else some (Sum.inl ⟨x.l,IntKind.i64.wrap (x.k - 1)⟩) else none else some (Sum.inr (Sum.inl ⟨x.l⟩))
theorem Qd(x:p0X):exec E1 36 (C21.Q2 0) 1 (p0.R x) (p0.H x) (Jb 0 p0 (.exit 0) q0 .ret z0)=s0 x:=by kernel_rfl
def l0:QB:=Jc 0 p0 (.exit 0) q0 .ret z0 s0
theorem tl0:QA (C21.Q2 0) 1=[]:=by kernel_rfl
theorem Qe  :QH Try.prog 36 none 0 (C21.Q2 0) l0:=Ql mixed (Q7 Q9 Q6 _) (by trivial) (by trivial) (λ_=>rfl) (λ_=>rfl) (λ_=>rfl) (tl0▸Q8.nil) Qd
def E0:Env:=⟨ty,QJ cl,JB [(0,l0),(1,l1)],none⟩
def m(x:gX):Option fY:=Q1 (iter s0 ⟨x.l,x.i⟩) λs=>Qn s (λy=>Q1 (iter s1 ⟨y.l,0⟩) λs=>Qn s (λy=>some 0) λz=>some z.r) λz=>some z.r
theorem QW(x:gX):exec E0 36 C21 0 (QX 0 (g.A x)) (g.H x) (finish 0 ty [.tmp 4] f)=m x:=by kernel_rfl
theorem tl:QA C21 0=[(0,C21.Q2 0),(1,C21.Q2 1)]:=by kernel_rfl
theorem known:QV Try.prog 21 g f m:=
 QD mixed (Q7 Q9 Q6 _) s21 rfl rfl tl (Q8.cons rfl Qe (Q8.cons rfl Yd Q8.nil)) (λ_ _=>⟨rfl,rfl⟩) (λ_ _=>⟨rfl,rfl⟩) QW
def con:Con:=XI g f m default
theorem Q5:Qk Try.prog 21 con:=Qa known (λ_=>rfl) rfl
end M21
namespace M3
structure gX where(xi xs yi ys:List (Int))
def g:Sg gX:=⟨[.agg [.arr (.int .u8),.arr (.int .u8)],.agg [.arr (.int .u8),.arr (.int .u8)]],[],λa b=>⟨a.1.1,a.1.2.1,a.2.1.1,a.2.1.2.1⟩,λx=>((x.xi,(x.xs,())),((x.yi,(x.ys,())),())),λx=>()⟩
abbrev fY:=Bool
def f:Ft fY:=⟨none,.c (.bo),[],λa b=>(a),λy=>y,λy=>()⟩
def cl:List (FuncId×Con):=[(9,M9.con),(10,M10.con),(11,M11.con),(12,M12.con),(13,M13.con),(14,M14.con),(15,M15.con),(16,M16.con),(17,M17.con),(18,M18.con)]
theorem Q6:QT Try.prog cl:=⟨M9.Q5,M10.Q5,M11.Q5,M12.Q5,M13.Q5,M14.Q5,M15.Q5,M16.Q5,M17.Q5,M18.Q5,trivial⟩
def E1:Env:=⟨ty,QJ cl,λ_=>none,none⟩
structure p0X where(e common:Int)(covers:Bool)(n:Int)(ai as_ bi bs mi ms:List (Int))
def p0:Pt p0X where
 own:=[]
 t:=⟨[(5,.c (.ptr 2 0)),(6,.c (.ptr 3 0)),(7,.c (.ptr 10 0)),(8,.c (.it .i64)),(9,.c (.it .i64)),(10,.c (.bo)),(11,.c (.it .i64))],[.st [.junk,.junk] 1 0,.st [.junk,.junk] 1 0,.st [.arr (.int .u8),.arr (.int .u8)] 1 0,.st [.arr (.int .u8),.arr (.int .u8)] 1 0,.st [.junk] 1 0,.st [.junk] 1 0,.st [.junk] 1 0,.st [.junk] 1 0,.st [.junk] 1 0,.st [.junk] 1 0,.st [.arr (.int .u8),.arr (.int .u8)] 1 0]⟩
 to:=λv=>⟨v.1.2.2.2.1,v.1.2.2.2.2.1,v.1.2.2.2.2.2.1,v.1.2.2.2.2.2.2.1,v.2.2.2.1.1,v.2.2.2.1.2.1,v.2.2.2.2.1.1,v.2.2.2.2.1.2.1,v.2.2.2.2.2.2.2.2.2.2.2.1.1,v.2.2.2.2.2.2.2.2.2.2.2.1.2.1⟩
 fr:=λx=>(((),((),((),(x.e,(x.common,(x.covers,(x.n,()))))))),(((),((),())),(((),((),())),((x.ai,(x.as_,())),((x.bi,(x.bs,())),(((),()),(((),()),(((),()),(((),()),(((),()),(((),()),((x.mi,(x.ms,())),()))))))))))))
structure q0X where(e common:Int)(covers:Bool)(ai as_ bi bs mi ms:List (Int))
def q0:Pt q0X where
 own:=[]
 t:=⟨[(5,.c (.ptr 2 0)),(6,.c (.ptr 3 0)),(7,.c (.ptr 10 0)),(8,.c (.it .i64)),(9,.c (.it .i64)),(10,.c (.bo))],[.st [.junk,.junk] 1 0,.st [.junk,.junk] 1 0,.st [.arr (.int .u8),.arr (.int .u8)] 1 0,.st [.arr (.int .u8),.arr (.int .u8)] 1 0,.st [.junk] 1 0,.st [.junk] 1 0,.st [.junk] 1 0,.st [.junk] 1 0,.st [.junk] 1 0,.st [.junk] 1 0,.st [.arr (.int .u8),.arr (.int .u8)] 1 0]⟩
 to:=λv=>⟨v.1.2.2.2.1,v.1.2.2.2.2.1,v.1.2.2.2.2.2.1,v.2.2.2.1.1,v.2.2.2.1.2.1,v.2.2.2.2.1.1,v.2.2.2.2.1.2.1,v.2.2.2.2.2.2.2.2.2.2.2.1.1,v.2.2.2.2.2.2.2.2.2.2.2.1.2.1⟩
 fr:=λx=>(((),((),((),(x.e,(x.common,(x.covers,())))))),(((),((),())),(((),((),())),((x.ai,(x.as_,())),((x.bi,(x.bs,())),(((),()),(((),()),(((),()),(((),()),(((),()),(((),()),((x.mi,(x.ms,())),()))))))))))))
structure z0X where(r:Bool)
def z0:Pt z0X where
 own:=[]
 t:=⟨[(4,.c (.bo))],[]⟩
 to:=λv=>⟨v.1.1⟩
 fr:=λx=>((x.r,()),())
def s0(x:p0X):Option (p0X⊕(q0X⊕z0X)):=Q1 (M14.m ⟨x.ai,x.as_⟩) λy=>bif decide (0<=(↑(List.length y):Int)) then bif decide (x.n<IntKind.i64.wrap (1*2^min (↑(List.length y):Int).toNat 64)) then Q1 (M15.m ⟨x.ai,x.as_,x.n⟩) λy=>Q1 (M15.m ⟨x.bi,x.bs,x.n⟩) λy_1=>Q1 (bif x.e==0 then M15.m ⟨x.mi,x.ms,x.n⟩ else some false) λy_2=>bif bif x.e==0 then !y_2==bif y then y_1 else false else false then some (Sum.inr (Sum.inr ⟨false⟩)) else some (Sum.inl ⟨x.e,bif bif y then y_1 else false then IntKind.i64.wrap (x.common+1) else x.common,bif x.covers then bif y then true else !y_1 else false,IntKind.i64.wrap (x.n+1),x.ai,x.as_,x.bi,x.bs,x.mi,x.ms⟩) else some (Sum.inr (Sum.inl ⟨x.e,x.common,x.covers,x.ai,x.as_,x.bi,x.bs,x.mi,x.ms⟩)) else none
theorem Qd(x:p0X):exec E1 146 (C3.Q2 0) 1 (p0.R x) (p0.H x) (Jb 0 p0 (.exit 0) q0 .ret z0)=s0 x:=by kernel_rfl
def l0:QB:=Jc 0 p0 (.exit 0) q0 .ret z0 s0
theorem tl0:QA (C3.Q2 0) 1=[]:=by kernel_rfl
theorem Qe  :QH Try.prog 146 none 0 (C3.Q2 0) l0:=Ql mixed (Q7 Q9 Q6 _) (by trivial) (by trivial) (λ_=>rfl) (λ_=>rfl) (λ_=>rfl) (tl0▸Q8.nil) Qd
def E0:Env:=⟨ty,QJ cl,JB [(0,l0)],none⟩
def m(x:gX):Option fY:=Q1 (M9.m ⟨8,[(x.xi,x.xs)]⟩) λy=>bif !!y then Q1 (M9.m ⟨30,[(x.yi,x.ys)]⟩) λy=>bif !y then Q1 (M10.m PUnit.unit) λy=>some y else Q1 (M11.m ⟨x.xi,x.xs⟩) λy=>Q1 (M12.m ⟨x.xi,x.xs,x.yi,x.ys⟩) λy_1=>Q1 (M11.m ⟨y_1.1,y_1.2⟩) λy_2=>Q1 (M13.m ⟨y.1,y.2,y_2.1,y_2.2⟩) λy_3=>Q1 (iter s0 ⟨y_3.2.2,0,true,0,y.1,y.2,y_2.1,y_2.2,y_3.1,y_3.2.1⟩) λs=>Qn s (λy=>bif bif bif !(y.e==0)==decide (y.common>0) then true else bif !decide (y.common>0) then bif y.e !=9 then true else decide (IntKind.i64.wrap ((↑y.mi.length:Int)+(↑y.ms.length:Int))>0) else false then true else bif decide (y.common>0) then bif (↑y.mi.length:Int) !=(↑y.ai.length:Int) then true else (↑y.ms.length:Int) !=(↑y.as_.length:Int) else false then some false else Q1 (M16.m ⟨y.ai,y.as_,y.bi,y.bs⟩) λy_4=>Q1 (bif y_4==decide (y.common>0) then M17.m ⟨y.ai,y.as_,y.bi,y.bs⟩ else some false) λy_5=>Q1 (bif bif y_4==decide (y.common>0) then y_5==y.covers else false then M18.m ⟨y.ai,y.as_,y.bi,y.bs⟩ else some (Int.ofNat 0)) λy_6=>Q1 (bif bif bif y_4==decide (y.common>0) then y_5==y.covers else false then (y_6==0)==decide (y.common>0) else false then M10.m PUnit.unit else some false) λy_7=>some (bif bif bif y_4==decide (y.common>0) then y_5==y.covers else false then (y_6==0)==decide (y.common>0) else false then y_7 else false)) λz=>some z.r else Q1 (M10.m PUnit.unit) λy=>some y
theorem QW(x:gX):exec E0 146 C3 0 (QX 0 (g.A x)) (g.H x) (finish 0 ty [.tmp 4] f)=m x:=by kernel_rfl
theorem tl:QA C3 0=[(0,C3.Q2 0)]:=by kernel_rfl
theorem known:QV Try.prog 3 g f m:=
 QD mixed (Q7 Q9 Q6 _) s3 rfl rfl tl (Q8.cons rfl Qe Q8.nil) (λ_ _=>⟨rfl,rfl⟩) (λ_ _=>⟨rfl,rfl⟩) QW
end M3
namespace M24
structure gX where(i s:List (Int))
def g:Sg gX:=⟨[.agg [.arr (.int .u8),.arr (.int .u8)]],[],λa b=>⟨a.1.1,a.1.2.1⟩,λx=>((x.i,(x.s,())),()),λx=>()⟩
abbrev fY:=Bool
def f:Ft fY:=⟨none,.c (.bo),[],λa b=>(a),λy=>y,λy=>()⟩
def cl:List (FuncId×Con):=[(30,M30.con),(14,M14.con)]
theorem Q6:QT Try.prog cl:=⟨M30.Q5,M14.Q5,trivial⟩
def E3:Env:=⟨ty,QJ cl,λ_=>none,none⟩
structure p2X where(l:List ((List (Int))×List (Int)))(n at_ k i:Int)(pi ps:List (Int))
def p2:Pt p2X where
 own:=[]
 t:=⟨[(1,.c (.ptr 0 0)),(3,.c (.arr (.pair (.sl (.int .u8)) (.sl (.int .u8))))),(5,.c (.it .i64)),(6,.c (.it .i64)),(7,.c (.it .i64)),(11,.c (.it .i64))],[.st [.arr (.int .u8),.arr (.int .u8)] 1 0]⟩
 to:=λv=>⟨v.1.2.1,v.1.2.2.1,v.1.2.2.2.1,v.1.2.2.2.2.1,v.1.2.2.2.2.2.1,v.2.1.1,v.2.1.2.1⟩
 fr:=λx=>(((),(x.l,(x.n,(x.at_,(x.k,(x.i,())))))),((x.pi,(x.ps,())),()))
structure q2X where(l:List ((List (Int))×List (Int)))(n at_ k:Int)(pi ps:List (Int))
def q2:Pt q2X where
 own:=[]
 t:=⟨[(1,.c (.ptr 0 0)),(3,.c (.arr (.pair (.sl (.int .u8)) (.sl (.int .u8))))),(5,.c (.it .i64)),(6,.c (.it .i64)),(7,.c (.it .i64))],[.st [.arr (.int .u8),.arr (.int .u8)] 1 0]⟩
 to:=λv=>⟨v.1.2.1,v.1.2.2.1,v.1.2.2.2.1,v.1.2.2.2.2.1,v.2.1.1,v.2.1.2.1⟩
 fr:=λx=>(((),(x.l,(x.n,(x.at_,(x.k,()))))),((x.pi,(x.ps,())),()))
structure z2X where(r:Bool)
def z2:Pt z2X where
 own:=[]
 t:=⟨[(2,.c (.bo))],[]⟩
 to:=λv=>⟨v.1.1⟩
 fr:=λx=>((x.r,()),())
def s2(x:p2X):Option (p2X⊕(q2X⊕z2X)):=bif decide (x.i<x.n) then bif inR x.at_ x.l.length then Q1 (M14.m ⟨(x.l[x.at_.toNat]?.getD ([],[])).1,(x.l[x.at_.toNat]?.getD ([],[])).2⟩) λy=>bif inR x.i (List.length y) then bif decide (0<=IntKind.i64.wrap (IntKind.i64.wrap (x.n - 1) - x.i)) then bif IntKind.i64.wrap (y[x.i.toNat]?.getD 0) !=(x.k.fdiv (2^min (IntKind.i64.wrap (IntKind.i64.wrap (x.n - 1) - x.i)).toNat 64)).tmod 2 then some (Sum.inr (Sum.inr ⟨false⟩)) else some (Sum.inl ⟨x.l,x.n,x.at_,x.k,IntKind.i64.wrap (x.i+1),x.pi,x.ps⟩) else none else none else none else some (Sum.inr (Sum.inl ⟨x.l,x.n,x.at_,x.k,x.pi,x.ps⟩))
theorem s2_eq(x:p2X):exec E3 113 (C24.Q2 2) 3 (p2.R x) (p2.H x) (Jb 0 p2 (.exit 4) q2 .ret z2)=s2 x:=by kernel_rfl
def l2:QB:=Jc 0 p2 (.exit 4) q2 .ret z2 s2
theorem tl2:QA (C24.Q2 2) 3=[]:=by kernel_rfl
theorem l2_ok  :QH Try.prog 113 none 0 (C24.Q2 2) l2:=Ql mixed (Q7 Q9 Q6 _) (by trivial) (by trivial) (λ_=>rfl) (λ_=>rfl) (λ_=>rfl) (tl2▸Q8.nil) s2_eq
def E2:Env:=⟨ty,QJ cl,JB [(2,l2)],none⟩
structure p1X where(l:List ((List (Int))×List (Int)))(n at_ k:Int)(ok:Bool)(i:Int)(pi ps:List (Int))
def p1:Pt p1X where
 own:=[]
 t:=⟨[(1,.c (.ptr 0 0)),(3,.c (.arr (.pair (.sl (.int .u8)) (.sl (.int .u8))))),(5,.c (.it .i64)),(6,.c (.it .i64)),(7,.c (.it .i64)),(8,.c (.bo)),(9,.c (.it .i64))],[.st [.arr (.int .u8),.arr (.int .u8)] 1 0]⟩
 to:=λv=>⟨v.1.2.1,v.1.2.2.1,v.1.2.2.2.1,v.1.2.2.2.2.1,v.1.2.2.2.2.2.1,v.1.2.2.2.2.2.2.1,v.2.1.1,v.2.1.2.1⟩
 fr:=λx=>(((),(x.l,(x.n,(x.at_,(x.k,(x.ok,(x.i,()))))))),((x.pi,(x.ps,())),()))
structure q1X where(l:List ((List (Int))×List (Int)))(n at_ k:Int)(ok:Bool)(pi ps:List (Int))
def q1:Pt q1X where
 own:=[]
 t:=⟨[(1,.c (.ptr 0 0)),(3,.c (.arr (.pair (.sl (.int .u8)) (.sl (.int .u8))))),(5,.c (.it .i64)),(6,.c (.it .i64)),(7,.c (.it .i64)),(8,.c (.bo))],[.st [.arr (.int .u8),.arr (.int .u8)] 1 0]⟩
 to:=λv=>⟨v.1.2.1,v.1.2.2.1,v.1.2.2.2.1,v.1.2.2.2.2.1,v.1.2.2.2.2.2.1,v.2.1.1,v.2.1.2.1⟩
 fr:=λx=>(((),(x.l,(x.n,(x.at_,(x.k,(x.ok,())))))),((x.pi,(x.ps,())),()))
def s1(x:p1X):Option (p1X⊕q1X):=bif decide (x.i<x.n) then Q1 (M14.m ⟨x.pi,x.ps⟩) λy=>bif inR x.i (List.length y) then bif decide (0<=IntKind.i64.wrap (IntKind.i64.wrap (x.n - 1) - x.i))||!(x.ok&&!y[x.i.toNat]?.getD 0==2) then some (Sum.inl ⟨x.l,x.n,x.at_,x.k,bif x.ok then bif y[x.i.toNat]?.getD 0==2 then true else IntKind.i64.wrap (y[x.i.toNat]?.getD 0)==(x.k.fdiv (2^min (IntKind.i64.wrap (IntKind.i64.wrap (x.n - 1) - x.i)).toNat 64)).tmod 2 else false,IntKind.i64.wrap (x.i+1),x.pi,x.ps⟩) else none else none else some (Sum.inr ⟨x.l,x.n,x.at_,x.k,x.ok,x.pi,x.ps⟩)
theorem YT(x:p1X):exec E2 113 (C24.Q2 1) 2 (p1.R x) (p1.H x) (J4 0 p1 (.exit 2) q1)=s1 x:=by kernel_rfl
def l1:QB:=J5 0 p1 (.exit 2) q1 s1
theorem tl1:QA (C24.Q2 1) 2=[]:=by kernel_rfl
theorem Yd  :QH Try.prog 113 none 0 (C24.Q2 1) l1:=QQ mixed (Q7 Q9 Q6 _) (by trivial) (λ_=>rfl) (λ_=>rfl) (tl1▸Q8.nil) YT
def E1:Env:=⟨ty,QJ cl,JB [(1,l1),(2,l2)],none⟩
structure p0X where(l:List ((List (Int))×List (Int)))(n at_ k:Int)(pi ps:List (Int))
def p0:Pt p0X where
 own:=[]
 t:=⟨[(1,.c (.ptr 0 0)),(3,.c (.arr (.pair (.sl (.int .u8)) (.sl (.int .u8))))),(5,.c (.it .i64)),(6,.c (.it .i64)),(7,.c (.it .i64))],[.st [.arr (.int .u8),.arr (.int .u8)] 1 0]⟩
 to:=λv=>⟨v.1.2.1,v.1.2.2.1,v.1.2.2.2.1,v.1.2.2.2.2.1,v.2.1.1,v.2.1.2.1⟩
 fr:=λx=>(((),(x.l,(x.n,(x.at_,(x.k,()))))),((x.pi,(x.ps,())),()))
structure q0X where(l:List ((List (Int))×List (Int)))(at_:Int)
def q0:Pt q0X where
 own:=[]
 t:=⟨[(3,.c (.arr (.pair (.sl (.int .u8)) (.sl (.int .u8))))),(6,.c (.it .i64))],[]⟩
 to:=λv=>⟨v.1.1,v.1.2.1⟩
 fr:=λx=>((x.l,(x.at_,())),())
structure z0X where(r:Bool)
def z0:Pt z0X where
 own:=[]
 t:=⟨[(2,.c (.bo))],[]⟩
 to:=λv=>⟨v.1.1⟩
 fr:=λx=>((x.r,()),())
def s0(x:p0X):Option (p0X⊕(q0X⊕z0X)):=bif decide (0<=x.n) then bif decide (x.k<IntKind.i64.wrap (1*2^min x.n.toNat 64)) then Q1 (iter s1 ⟨x.l,x.n,x.at_,x.k,true,0,x.pi,x.ps⟩) λy=>bif !y.ok then some (Sum.inl ⟨y.l,y.n,y.at_,IntKind.i64.wrap (y.k+1),y.pi,y.ps⟩) else bif inR y.at_ y.l.length||!!decide (y.at_>=(↑y.l.length:Int)) then bif inR y.at_ y.l.length||!!bif decide (y.at_>=(↑y.l.length:Int)) then true else (↑(List.length (y.l[y.at_.toNat]?.getD ([],[])).1):Int) !=(↑y.pi.length:Int) then bif bif bif decide (y.at_>=(↑y.l.length:Int)) then true else (↑(List.length (y.l[y.at_.toNat]?.getD ([],[])).1):Int) !=(↑y.pi.length:Int) then true else (↑(List.length (y.l[y.at_.toNat]?.getD ([],[])).2):Int) !=(↑y.ps.length:Int) then some (Sum.inr (Sum.inr ⟨false⟩)) else Q1 (iter s2 ⟨y.l,y.n,y.at_,y.k,0,y.pi,y.ps⟩) λs=>Qn s (λy=>some (Sum.inl ⟨y.l,y.n,IntKind.i64.wrap (y.at_+1),IntKind.i64.wrap (y.k+1),y.pi,y.ps⟩)) λz=>some (Sum.inr (Sum.inr ⟨z.r⟩)) else none else none else some (Sum.inr (Sum.inl ⟨x.l,x.at_⟩)) else none
theorem Qd(x:p0X):exec E1 113 (C24.Q2 0) 1 (p0.R x) (p0.H x) (Jb 0 p0 (.exit 0) q0 .ret z0)=s0 x:=by kernel_rfl
def l0:QB:=Jc 0 p0 (.exit 0) q0 .ret z0 s0
theorem tl0:QA (C24.Q2 0) 1=[(1,C24.Q2 1),(2,C24.Q2 2)]:=by kernel_rfl
theorem Qe  :QH Try.prog 113 none 0 (C24.Q2 0) l0:=Ql mixed (Q7 Q9 Q6 _) (by trivial) (by trivial) (λ_=>rfl) (λ_=>rfl) (λ_=>rfl) (tl0▸(Q8.cons rfl Yd (Q8.cons rfl l2_ok Q8.nil))) Qd
def E0:Env:=⟨ty,QJ cl,JB [(0,l0),(1,l1),(2,l2)],none⟩
def m(x:gX):Option fY:=Q1 (M30.m ⟨x.i,x.s⟩) λy=>Q1 (M14.m ⟨x.i,x.s⟩) λy_1=>bif y.2 !=0 then some false else Q1 (iter s0 ⟨y.1,(↑(List.length y_1):Int),0,0,x.i,x.s⟩) λs=>Qn s (λy=>some (y.at_==(↑y.l.length:Int))) λz=>some z.r
theorem QW(x:gX):exec E0 113 C24 0 (QX 0 (g.A x)) (g.H x) (finish 0 ty [.tmp 2] f)=m x:=by kernel_rfl
theorem tl:QA C24 0=[(0,C24.Q2 0)]:=by kernel_rfl
theorem known:QV Try.prog 24 g f m:=
 QD mixed (Q7 Q9 Q6 _) s24 rfl rfl tl (Q8.cons rfl Qe Q8.nil) (λ_ _=>⟨rfl,rfl⟩) (λ_ _=>⟨rfl,rfl⟩) QW
def con:Con:=XI g f m default
theorem Q5:Qk Try.prog 24 con:=Qa known (λ_=>rfl) rfl
end M24
namespace M51o
structure gX where(s_lo s_len:Nat)(ls pi ps:List (Int))
def g:Sg gX:=⟨[.c (.sl 0 0 1),.c (.clo 43 [⟨1,0,0⟩])],[.arr (.int .i64) 0,.st [.arr (.int .u8),.arr (.int .u8)] 1 0],λa b=>⟨a.1.1,a.1.2,b.1,b.2.1.1,b.2.1.2.1⟩,λx=>((x.s_lo,x.s_len),((),())),λx=>(x.ls,((x.pi,(x.ps,())),()))⟩
abbrev fY:=Int×List (Int)×List (Int)×List (Int)
def f:Ft fY:=⟨none,.c (.it .i64),[.arr (.int .i64) 0,.st [.arr (.int .u8),.arr (.int .u8)] 1 0],λa b=>(a,b.1,b.2.1.1,b.2.1.2.1),λy=>y.1,λy=>(y.2.1,((y.2.2.1,(y.2.2.2,())),()))⟩
def cl:List (FuncId×Con):=[(43,M43.con)]
theorem Q6:QT Try.prog cl:=⟨M43.Q5,trivial⟩
def E1:Env:=⟨ty,QJ cl,λ_=>none,none⟩
structure p0X where(s_lo s_len:Nat)(n i:Int)(ls pi ps:List (Int))
def p0:Pt p0X where
 own:=[]
 t:=⟨[(0,.c (.sl 0 0 1)),(1,.c (.clo 43 [⟨1,0,0⟩])),(7,.c (.it .i64)),(8,.c (.it .i64))],[.arr (.int .i64) 0,.st [.arr (.int .u8),.arr (.int .u8)] 1 0]⟩
 to:=λv=>⟨v.1.1.1,v.1.1.2,v.1.2.2.1,v.1.2.2.2.1,v.2.1,v.2.2.1.1,v.2.2.1.2.1⟩
 fr:=λx=>(((x.s_lo,x.s_len),((),(x.n,(x.i,())))),(x.ls,((x.pi,(x.ps,())),())))
structure q0X where(ls pi ps:List (Int))
def q0:Pt q0X where
 own:=[]
 t:=⟨[],[.arr (.int .i64) 0,.st [.arr (.int .u8),.arr (.int .u8)] 1 0]⟩
 to:=λv=>⟨v.2.1,v.2.2.1.1,v.2.2.1.2.1⟩
 fr:=λx=>((),(x.ls,((x.pi,(x.ps,())),())))
structure z0X where(r:Int)(ls pi ps:List (Int))
def z0:Pt z0X where
 own:=[]
 t:=⟨[(4,.c (.it .i64))],[.arr (.int .i64) 0,.st [.arr (.int .u8),.arr (.int .u8)] 1 0]⟩
 to:=λv=>⟨v.1.1,v.2.1,v.2.2.1.1,v.2.2.1.2.1⟩
 fr:=λx=>((x.r,()),(x.ls,((x.pi,(x.ps,())),())))
def s0(x:p0X):Option (p0X⊕(q0X⊕z0X)):=bif decide (x.i<x.n) then bif inR x.i x.s_len then bif decide (x.s_lo+x.i.toNat<x.ls.length) then Q1 (M43.m ⟨x.ls[x.s_lo+x.i.toNat]?.getD 0,x.pi,x.ps⟩) λy=>bif y.1 then some (Sum.inr (Sum.inr ⟨x.i,x.ls,x.pi,x.ps⟩)) else some (Sum.inl ⟨x.s_lo,x.s_len,x.n,IntKind.i64.wrap (x.i+1),x.ls,x.pi,x.ps⟩) else none else none else some (Sum.inr (Sum.inl ⟨x.ls,x.pi,x.ps⟩))
theorem Qd(x:p0X):exec E1 19 (C51.Q2 0) 1 (p0.R x) (p0.H x) (Jb 2 p0 (.exit 0) q0 .ret z0)=s0 x:=by kernel_rfl
def l0:QB:=Jc 2 p0 (.exit 0) q0 .ret z0 s0
theorem tl0:QA (C51.Q2 0) 1=[]:=by kernel_rfl
theorem Qe  :QH Try.prog 19 none 2 (C51.Q2 0) l0:=Ql mixed (Q7 Q9 Q6 _) (by trivial) (by trivial) (λ_=>rfl) (λ_=>rfl) (λ_=>rfl) (tl0▸Q8.nil) Qd
def E0:Env:=⟨ty,QJ cl,JB [(0,l0)],none⟩
def m(x:gX):Option fY:=Q1 (iter s0 ⟨x.s_lo,x.s_len,(↑x.s_len:Int),0,x.ls,x.pi,x.ps⟩) λs=>Qn s (λy=>some (-1,y.ls,y.pi,y.ps)) λz=>some (z.r,z.ls,z.pi,z.ps)
theorem QW(x:gX):exec E0 19 C51 0 (QX 0 (g.A x)) (g.H x) (finish 2 ty [.tmp 4] f)=m x:=by kernel_rfl
theorem tl:QA C51 0=[(0,C51.Q2 0)]:=by kernel_rfl
theorem known:QV Try.prog 51 g f m:=
 QD mixed (Q7 Q9 Q6 _) s51 rfl rfl tl (Q8.cons rfl Qe Q8.nil) (λ_ _=>⟨rfl,rfl⟩) (λ_ _=>⟨rfl,rfl⟩) QW
theorem hh{x:gX}{y:fY}(h:m x=some y):f.H y=g.H x:=by
 unfold m at h;obtain⟨r,h1,h2⟩:=Je h;have h3:=Ve (λz=>z.ls=x.ls/\z.pi=x.pi/\z.ps=x.ps) (λr=>match r with|.inl y=>y.ls=x.ls/\y.pi=x.pi/\y.ps=x.ps|.inr z=>z.ls=x.ls/\z.pi=x.pi/\z.ps=x.ps) (λz r hz hr=>by
  unfold s0 at hr;rcases cond_some hr with ⟨_,hr⟩|⟨_,hr⟩
  ·rcases cond_some hr with ⟨_,hr⟩|⟨_,hr⟩
   ·rcases cond_some hr with ⟨_,hr⟩|⟨_,hr⟩
    ·obtain⟨b,_,hr⟩:=Je hr;rcases cond_some hr with ⟨_,hr⟩|⟨_,hr⟩<;>(cases hr;exact hz)
    ·cases hr
   ·cases hr
  ·cases hr;exact hz) ⟨rfl,rfl,rfl⟩ h1
 rcases sumC_some h2 with ⟨z,rfl,h4⟩|⟨z,rfl,h4⟩<;>(cases h4;show [SO.arr (.int .i64) z.ls 0,SO.st [.arr (.int .u8) z.pi none,.arr (.int .u8) z.ps none] 1 0]=[SO.arr (.int .i64) x.ls 0,SO.st [.arr (.int .u8) x.pi none,.arr (.int .u8) x.ps none] 1 0];rw[h3.1,h3.2.1,h3.2.2])
def con:Con:=conR g [.arg 0 0,.arg 1 0] f m default
theorem Q5:Qk Try.prog 51 con:=Wi known (λ_=>rfl) (λ_ _ h=>by exact hh h)
end M51o
namespace M42o
structure gX where(s_lo s_len:Nat)(ls pi ps:List (Int))
def g:Sg gX:=⟨[.c (.sl 0 0 1),.c (.clo 43 [⟨1,0,0⟩])],[.arr (.int .i64) 0,.st [.arr (.int .u8),.arr (.int .u8)] 1 0],λa b=>⟨a.1.1,a.1.2,b.1,b.2.1.1,b.2.1.2.1⟩,λx=>((x.s_lo,x.s_len),((),())),λx=>(x.ls,((x.pi,(x.ps,())),()))⟩
abbrev fY:=Bool×List (Int)×List (Int)×List (Int)
def f:Ft fY:=⟨none,.c (.bo),[.arr (.int .i64) 0,.st [.arr (.int .u8),.arr (.int .u8)] 1 0],λa b=>(a,b.1,b.2.1.1,b.2.1.2.1),λy=>y.1,λy=>(y.2.1,((y.2.2.1,(y.2.2.2,())),()))⟩
def cl:List (FuncId×Con):=[(51,M51o.con)]
theorem Q6:QT Try.prog cl:=⟨M51o.Q5,trivial⟩
def E0:Env:=⟨ty,QJ cl,λ_=>none,none⟩
def m(x:gX):Option fY:=Q1 (M51o.m ⟨x.s_lo,x.s_len,x.ls,x.pi,x.ps⟩) λy=>some (decide (y.1>=0),x.ls,x.pi,x.ps)
theorem QW(x:gX):exec E0 9 C42 0 (QX 0 (g.A x)) (g.H x) (finish 2 ty [.tmp 4] f)=m x:=by kernel_rfl
theorem tl:QA C42 0=[]:=by kernel_rfl
theorem known:QV Try.prog 42 g f m:=
 QD mixed (Q7 Q9 Q6 _) s42 rfl rfl tl Q8.nil (λ_ _=>⟨rfl,rfl⟩) (λ_ _=>⟨rfl,rfl⟩) QW
theorem hh{x:gX}{y:fY}(h:m x=some y):f.H y=g.H x:=by unfold m at h;obtain⟨r,h1,h2⟩:=Je h;cases h2;rfl
def con:Con:=conR g [.arg 0 0,.arg 1 0] f m default
theorem Q5:Qk Try.prog 42 con:=Wi known (λ_=>rfl) (λ_ _ h=>by exact hh h)
end M42o
namespace M23o
structure gX where(i s:List (Int))(l_lo l_len:Nat)(ls:List (Int))
def g:Sg gX:=⟨[.agg [.arr (.int .u8),.arr (.int .u8)],.c (.sl 0 0 1)],[.arr (.int .i64) 0],λa b=>⟨a.1.1,a.1.2.1,a.2.1.1,a.2.1.2,b.1⟩,λx=>((x.i,(x.s,())),((x.l_lo,x.l_len),())),λx=>(x.ls,())⟩
abbrev fY:=List (Int)×List (Int)×Int×List (Int)
def f:Ft fY:=⟨none,.tup [.inr [.arr (.int .u8),.arr (.int .u8)],.inl (.it .i64)],[.arr (.int .i64) 0],λa b=>(a.1.1,a.1.2.1,a.2.1,b.1),λy=>((y.1,(y.2.1,())),(y.2.2.1,())),λy=>(y.2.2.2,())⟩
def cl:List (FuncId×Con):=[(29,M29.con),(42,M42o.con),(34,M34.con)]
theorem Q6:QT Try.prog cl:=⟨M29.Q5,M42o.Q5,M34.Q5,trivial⟩
def E1:Env:=⟨ty,QJ cl,λ_=>none,none⟩
structure p0X where(l_lo l_len:Nat)(n i:Int)(ls pi ps xs ys:List (Int))(oi_lo oi_len oi_cap os_lo os_len os_cap:Nat)
def p0:Pt p0X where
 own:=[]
 t:=⟨[(2,.c (.ptr 1 0)),(4,.c (.ptr 2 0)),(7,.c (.ptr 5 0)),(22,.c (.sl 0 0 1)),(23,.c (.it .i64)),(24,.c (.it .i64))],[.arr (.int .i64) 0,.st [.arr (.int .u8),.arr (.int .u8)] 1 0,.st [.junk,.junk] 1 0,.arr (.int .u8) 0,.arr (.int .u8) 0,.st [.slc 3 0 1,.slc 4 0 1] 1 0]⟩
 to:=λv=>⟨v.1.2.2.2.1.1,v.1.2.2.2.1.2,v.1.2.2.2.2.1,v.1.2.2.2.2.2.1,v.2.1,v.2.2.1.1,v.2.2.1.2.1,v.2.2.2.2.1,v.2.2.2.2.2.1,v.2.2.2.2.2.2.1.1.1,v.2.2.2.2.2.2.1.1.2.1,v.2.2.2.2.2.2.1.1.2.2,v.2.2.2.2.2.2.1.2.1.1,v.2.2.2.2.2.2.1.2.1.2.1,v.2.2.2.2.2.2.1.2.1.2.2⟩
 fr:=λx=>(((),((),((),((x.l_lo,x.l_len),(x.n,(x.i,())))))),(x.ls,((x.pi,(x.ps,())),(((),((),())),(x.xs,(x.ys,(((x.oi_lo,x.oi_len,x.oi_cap),((x.os_lo,x.os_len,x.os_cap),())),())))))))
structure q0X where(ls pi ps xs ys:List (Int))(oi_lo oi_len oi_cap os_lo os_len os_cap:Nat)
def q0:Pt q0X where
 own:=[]
 t:=⟨[(4,.c (.ptr 2 0)),(7,.c (.ptr 5 0))],[.arr (.int .i64) 0,.st [.arr (.int .u8),.arr (.int .u8)] 1 0,.st [.junk,.junk] 1 0,.arr (.int .u8) 0,.arr (.int .u8) 0,.st [.slc 3 0 1,.slc 4 0 1] 1 0]⟩
 to:=λv=>⟨v.2.1,v.2.2.1.1,v.2.2.1.2.1,v.2.2.2.2.1,v.2.2.2.2.2.1,v.2.2.2.2.2.2.1.1.1,v.2.2.2.2.2.2.1.1.2.1,v.2.2.2.2.2.2.1.1.2.2,v.2.2.2.2.2.2.1.2.1.1,v.2.2.2.2.2.2.1.2.1.2.1,v.2.2.2.2.2.2.1.2.1.2.2⟩
 fr:=λx=>(((),((),())),(x.ls,((x.pi,(x.ps,())),(((),((),())),(x.xs,(x.ys,(((x.oi_lo,x.oi_len,x.oi_cap),((x.os_lo,x.os_len,x.os_cap),())),())))))))
def s0(x:p0X):Option (p0X⊕q0X):=bif decide (x.i<x.n) then bif inR x.i x.l_len then bif decide (x.l_lo+x.i.toNat<x.ls.length) then bif decide (x.ls[x.l_lo+x.i.toNat]?.getD 0<(↑x.pi.length:Int)) then bif inR (x.ls[x.l_lo+x.i.toNat]?.getD 0) x.oi_len then bif decide (x.oi_lo+Int.toNat (x.ls[x.l_lo+x.i.toNat]?.getD 0)<x.xs.length) then some (Sum.inl ⟨x.l_lo,x.l_len,x.n,IntKind.i64.wrap (x.i+1),x.ls,x.pi,x.ps,x.xs.set (x.oi_lo+Int.toNat (x.ls[x.l_lo+x.i.toNat]?.getD 0)) 2,x.ys,x.oi_lo,x.oi_len,x.oi_cap,x.os_lo,x.os_len,x.os_cap⟩) else none else none else bif inR (IntKind.i64.wrap (x.ls[x.l_lo+x.i.toNat]?.getD 0 - (↑x.pi.length:Int))) x.os_len then bif decide (x.os_lo+(IntKind.i64.wrap (x.ls[x.l_lo+x.i.toNat]?.getD 0 - (↑x.pi.length:Int))).toNat<x.ys.length) then some (Sum.inl ⟨x.l_lo,x.l_len,x.n,IntKind.i64.wrap (x.i+1),x.ls,x.pi,x.ps,x.xs,x.ys.set (x.os_lo+(IntKind.i64.wrap (x.ls[x.l_lo+x.i.toNat]?.getD 0 - (↑x.pi.length:Int))).toNat) 2,x.oi_lo,x.oi_len,x.oi_cap,x.os_lo,x.os_len,x.os_cap⟩) else none else none else none else none else some (Sum.inr ⟨x.ls,x.pi,x.ps,x.xs,x.ys,x.oi_lo,x.oi_len,x.oi_cap,x.os_lo,x.os_len,x.os_cap⟩)
theorem Qd(x:p0X):exec E1 47 (C23.Q2 0) 1 (p0.R x) (p0.H x) (J4 1 p0 (.exit 0) q0)=s0 x:=by kernel_rfl
def l0:QB:=J5 1 p0 (.exit 0) q0 s0
theorem tl0:QA (C23.Q2 0) 1=[]:=by kernel_rfl
theorem Qe  :QH Try.prog 47 none 1 (C23.Q2 0) l0:=QQ mixed (Q7 Q9 Q6 _) (by trivial) (λ_=>rfl) (λ_=>rfl) (tl0▸Q8.nil) Qd
def E0:Env:=⟨ty,QJ cl,JB [(0,l0)],none⟩
def m(x:gX):Option fY:=Q1 (M29.m ⟨x.i,x.s⟩) λy=>bif y !=0 then some ([],[],y,x.ls) else Q1 (M42o.m ⟨x.l_lo,x.l_len,x.ls,x.i,x.s⟩) λy=>bif y.1 then some ([],[],1,x.ls) else Q1 (M34.m ⟨x.i,x.s⟩) λy=>Q1 (iter s0 ⟨x.l_lo,x.l_len,(↑x.l_len:Int),0,x.ls,x.i,x.s,y.2.2.2.2.2.2.1,y.2.2.2.2.2.2.2,y.1,y.2.1,y.2.2.1,y.2.2.2.1,y.2.2.2.2.1,y.2.2.2.2.2.1⟩) λy=>bif leB (y.oi_lo+y.oi_len) y.xs.length&&(leB (y.os_lo+y.os_len) y.ys.length&&true)&&true&&true&&true then some (List.take y.oi_len (List.drop y.oi_lo y.xs),List.take y.os_len (List.drop y.os_lo y.ys),0,y.ls) else none
theorem QW(x:gX):exec E0 47 C23 0 (QX 0 (g.A x)) (g.H x) (finish 1 ty [.cell 4 29,.tmp 5] f)=m x:=by kernel_rfl
theorem tl:QA C23 0=[(0,C23.Q2 0)]:=by kernel_rfl
theorem known:QV Try.prog 23 g f m:=
 QD mixed (Q7 Q9 Q6 _) s23 rfl rfl tl (Q8.cons rfl Qe Q8.nil) (λ_ _=>⟨rfl,rfl⟩) (λ_ _=>⟨rfl,rfl⟩) QW
theorem hh{x:gX}{y:fY}(h:m x=some y):f.H y=g.H x:=by
 unfold m at h;obtain⟨e,_,h⟩:=Je h;rcases cond_some h with ⟨_,h⟩|⟨_,h⟩
 ·cases h;rfl
 obtain⟨b,_,h⟩:=Je h;rcases cond_some h with ⟨_,h⟩|⟨_,h⟩
 ·cases h;rfl
 obtain⟨o,_,h⟩:=Je h;obtain⟨z,h1,h⟩:=Je h;rcases cond_some h with ⟨_,h⟩|⟨_,h⟩
 ·cases h;have h3:=Ve (λz=>z.ls=x.ls) (λr=>r.ls=x.ls) (λz r hz hr=>by
   unfold s0 at hr;rcases cond_some hr with ⟨_,hr⟩|⟨_,hr⟩
   ·rcases cond_some hr with ⟨_,hr⟩|⟨_,hr⟩
    ·rcases cond_some hr with ⟨_,hr⟩|⟨_,hr⟩
     ·rcases cond_some hr with ⟨_,hr⟩|⟨_,hr⟩
      ·rcases cond_some hr with ⟨_,hr⟩|⟨_,hr⟩
       ·rcases cond_some hr with ⟨_,hr⟩|⟨_,hr⟩
        ·cases hr;exact hz
        ·cases hr
       ·cases hr
      ·rcases cond_some hr with ⟨_,hr⟩|⟨_,hr⟩
       ·rcases cond_some hr with ⟨_,hr⟩|⟨_,hr⟩
        ·cases hr;exact hz
        ·cases hr
       ·cases hr
     ·cases hr
    ·cases hr
   ·cases hr;exact hz) rfl h1
  show [SO.arr (.int .i64) z.ls 0]=[SO.arr (.int .i64) x.ls 0];rw[h3]
 ·cases h
def con:Con:=conR g [.arg 1 0] f m default
theorem Q5:Qk Try.prog 23 con:=Wi known (λ_=>rfl) (λ_ _ h=>by exact hh h)
end M23o
namespace M4
structure gX where(xi xs l:List (Int))
def g:Sg gX:=⟨[.agg [.arr (.int .u8),.arr (.int .u8)],.c (.arr (.int .u8))],[],λa b=>⟨a.1.1,a.1.2.1,a.2.1⟩,λx=>((x.xi,(x.xs,())),(x.l,())),λx=>()⟩
abbrev fY:=Bool
def f:Ft fY:=⟨none,.c (.bo),[],λa b=>(a),λy=>y,λy=>()⟩
def cl:List (FuncId×Con):=[(9,M9.con),(10,M10.con),(11,M11.con),(14,M14.con),(19,M19.con),(20,M20.con),(21,M21.con),(22,M22.con),(23,M23o.con),(17,M17.con),(24,M24.con)]
theorem Q6:QT Try.prog cl:=⟨M9.Q5,M10.Q5,M11.Q5,M14.Q5,M19.Q5,M20.Q5,M21.Q5,M22.Q5,M23o.Q5,M17.Q5,M24.Q5,trivial⟩
def E4:Env:=⟨ty,QJ cl,λ_=>none,none⟩
structure p3X where(bits:List (Int))(at__lo at__len:Nat)(got:List (Int))(i want k:Int)(ai as_ xs:List (Int))
def p3:Pt p3X where
 own:=[]
 t:=⟨[(5,.c (.ptr 1 0)),(6,.c (.arr (.int .u8))),(18,.c (.sl 5 0 1)),(22,.c (.arr (.int .u8))),(23,.c (.it .i64)),(24,.c (.it .u8)),(25,.c (.it .i64))],[.st [.junk,.junk] 1 0,.st [.arr (.int .u8),.arr (.int .u8)] 1 0,.st [.junk,.junk] 1 0,.st [.junk,.junk] 1 0,.st [.junk,.junk] 1 0,.arr (.int .i64) 0]⟩
 to:=λv=>⟨v.1.2.1,v.1.2.2.1.1,v.1.2.2.1.2,v.1.2.2.2.1,v.1.2.2.2.2.1,v.1.2.2.2.2.2.1,v.1.2.2.2.2.2.2.1,v.2.2.1.1,v.2.2.1.2.1,v.2.2.2.2.2.2.1⟩
 fr:=λx=>(((),(x.bits,((x.at__lo,x.at__len),(x.got,(x.i,(x.want,(x.k,()))))))),(((),((),())),((x.ai,(x.as_,())),(((),((),())),(((),((),())),(((),((),())),(x.xs,())))))))
structure q3X where(bits:List (Int))(at__lo at__len:Nat)(got:List (Int))(i want:Int)(ai as_ xs:List (Int))
def q3:Pt q3X where
 own:=[]
 t:=⟨[(5,.c (.ptr 1 0)),(6,.c (.arr (.int .u8))),(18,.c (.sl 5 0 1)),(22,.c (.arr (.int .u8))),(23,.c (.it .i64)),(24,.c (.it .u8))],[.st [.junk,.junk] 1 0,.st [.arr (.int .u8),.arr (.int .u8)] 1 0,.st [.junk,.junk] 1 0,.st [.junk,.junk] 1 0,.st [.junk,.junk] 1 0,.arr (.int .i64) 0]⟩
 to:=λv=>⟨v.1.2.1,v.1.2.2.1.1,v.1.2.2.1.2,v.1.2.2.2.1,v.1.2.2.2.2.1,v.1.2.2.2.2.2.1,v.2.2.1.1,v.2.2.1.2.1,v.2.2.2.2.2.2.1⟩
 fr:=λx=>(((),(x.bits,((x.at__lo,x.at__len),(x.got,(x.i,(x.want,())))))),(((),((),())),((x.ai,(x.as_,())),(((),((),())),(((),((),())),(((),((),())),(x.xs,())))))))
def s3(x:p3X):Option (p3X⊕q3X):=bif decide (x.k<(↑x.at__len:Int)) then bif inR x.k x.at__len then bif decide (x.at__lo+x.k.toNat<x.xs.length) then some (Sum.inl ⟨x.bits,x.at__lo,x.at__len,x.got,x.i,bif x.xs[x.at__lo+x.k.toNat]?.getD 0==x.i then 2 else x.want,IntKind.i64.wrap (x.k+1),x.ai,x.as_,x.xs⟩) else none else none else some (Sum.inr ⟨x.bits,x.at__lo,x.at__len,x.got,x.i,x.want,x.ai,x.as_,x.xs⟩)
theorem s3_eq(x:p3X):exec E4 230 (C4.Q2 3) 4 (p3.R x) (p3.H x) (J4 0 p3 (.exit 6) q3)=s3 x:=by kernel_rfl
def l3:QB:=J5 0 p3 (.exit 6) q3 s3
theorem tl3:QA (C4.Q2 3) 4=[]:=by kernel_rfl
theorem l3_ok  :QH Try.prog 230 none 0 (C4.Q2 3) l3:=QQ mixed (Q7 Q9 Q6 _) (by trivial) (λ_=>rfl) (λ_=>rfl) (tl3▸Q8.nil) s3_eq
def E3:Env:=⟨ty,QJ cl,JB [(3,l3)],none⟩
structure p2X where(bits:List (Int))(at__lo at__len:Nat)(got:List (Int))(i:Int)(ai as_ xs:List (Int))
def p2:Pt p2X where
 own:=[]
 t:=⟨[(5,.c (.ptr 1 0)),(6,.c (.arr (.int .u8))),(18,.c (.sl 5 0 1)),(22,.c (.arr (.int .u8))),(23,.c (.it .i64))],[.st [.junk,.junk] 1 0,.st [.arr (.int .u8),.arr (.int .u8)] 1 0,.st [.junk,.junk] 1 0,.st [.junk,.junk] 1 0,.st [.junk,.junk] 1 0,.arr (.int .i64) 0]⟩
 to:=λv=>⟨v.1.2.1,v.1.2.2.1.1,v.1.2.2.1.2,v.1.2.2.2.1,v.1.2.2.2.2.1,v.2.2.1.1,v.2.2.1.2.1,v.2.2.2.2.2.2.1⟩
 fr:=λx=>(((),(x.bits,((x.at__lo,x.at__len),(x.got,(x.i,()))))),(((),((),())),((x.ai,(x.as_,())),(((),((),())),(((),((),())),(((),((),())),(x.xs,())))))))
structure q2X where(bits ai as_:List (Int))
def q2:Pt q2X where
 own:=[]
 t:=⟨[(5,.c (.ptr 1 0)),(6,.c (.arr (.int .u8)))],[.st [.junk,.junk] 1 0,.st [.arr (.int .u8),.arr (.int .u8)] 1 0]⟩
 to:=λv=>⟨v.1.2.1,v.2.2.1.1,v.2.2.1.2.1⟩
 fr:=λx=>(((),(x.bits,())),(((),((),())),((x.ai,(x.as_,())),())))
structure z2X where(r:Bool)
def z2:Pt z2X where
 own:=[]
 t:=⟨[(4,.c (.bo))],[]⟩
 to:=λv=>⟨v.1.1⟩
 fr:=λx=>((x.r,()),())
def s2(x:p2X):Option (p2X⊕(q2X⊕z2X)):=bif decide (x.i<(↑x.bits.length:Int)) then bif inR x.i x.bits.length then Q1 (iter s3 ⟨x.bits,x.at__lo,x.at__len,x.got,x.i,x.bits[x.i.toNat]?.getD 0,0,x.ai,x.as_,x.xs⟩) λy=>bif inR y.i y.got.length then bif y.got[y.i.toNat]?.getD 0 !=y.want then some (Sum.inr (Sum.inr ⟨false⟩)) else some (Sum.inl ⟨y.bits,y.at__lo,y.at__len,y.got,IntKind.i64.wrap (y.i+1),y.ai,y.as_,y.xs⟩) else none else none else some (Sum.inr (Sum.inl ⟨x.bits,x.ai,x.as_⟩))
theorem s2_eq(x:p2X):exec E3 230 (C4.Q2 2) 3 (p2.R x) (p2.H x) (Jb 0 p2 (.exit 4) q2 .ret z2)=s2 x:=by kernel_rfl
def l2:QB:=Jc 0 p2 (.exit 4) q2 .ret z2 s2
theorem tl2:QA (C4.Q2 2) 3=[(3,C4.Q2 3)]:=by kernel_rfl
theorem l2_ok  :QH Try.prog 230 none 0 (C4.Q2 2) l2:=Ql mixed (Q7 Q9 Q6 _) (by trivial) (by trivial) (λ_=>rfl) (λ_=>rfl) (λ_=>rfl) (tl2▸(Q8.cons rfl l3_ok Q8.nil)) s2_eq
def E2:Env:=⟨ty,QJ cl,JB [(2,l2),(3,l3)],none⟩
structure p1X where(l bits:List (Int))(at__lo at__len:Nat)(i:Int)(ai as_ xs:List (Int))
def p1:Pt p1X where
 own:=[.reg 18 (.int .i64)]
 t:=⟨[(1,.c (.arr (.int .u8))),(5,.c (.ptr 1 0)),(6,.c (.arr (.int .u8))),(18,.c (.sl 5 0 1)),(19,.c (.it .i64))],[.st [.junk,.junk] 1 0,.st [.arr (.int .u8),.arr (.int .u8)] 1 0,.st [.junk,.junk] 1 0,.st [.junk,.junk] 1 0,.st [.junk,.junk] 1 0,.arr (.int .i64) 0]⟩
 to:=λv=>⟨v.1.1,v.1.2.2.1,v.1.2.2.2.1.1,v.1.2.2.2.1.2,v.1.2.2.2.2.1,v.2.2.1.1,v.2.2.1.2.1,v.2.2.2.2.2.2.1⟩
 fr:=λx=>((x.l,((),(x.bits,((x.at__lo,x.at__len),(x.i,()))))),(((),((),())),((x.ai,(x.as_,())),(((),((),())),(((),((),())),(((),((),())),(x.xs,())))))))
structure q1X where(bits:List (Int))(at__lo at__len:Nat)(ai as_ xs:List (Int))
def q1:Pt q1X where
 own:=[]
 t:=⟨[(5,.c (.ptr 1 0)),(6,.c (.arr (.int .u8))),(18,.c (.sl 5 0 1))],[.st [.junk,.junk] 1 0,.st [.arr (.int .u8),.arr (.int .u8)] 1 0,.st [.junk,.junk] 1 0,.st [.junk,.junk] 1 0,.st [.junk,.junk] 1 0,.arr (.int .i64) 0]⟩
 to:=λv=>⟨v.1.2.1,v.1.2.2.1.1,v.1.2.2.1.2,v.2.2.1.1,v.2.2.1.2.1,v.2.2.2.2.2.2.1⟩
 fr:=λx=>(((),(x.bits,((x.at__lo,x.at__len),()))),(((),((),())),((x.ai,(x.as_,())),(((),((),())),(((),((),())),(((),((),())),(x.xs,())))))))
def s1(x:p1X):Option (p1X⊕q1X):=bif bif decide (x.i<(↑x.l.length:Int)) then decide ((↑x.bits.length:Int)>0) else false then bif inR x.i x.l.length then bif nz (↑x.bits.length:Int) then bif eqN x.at__lo 0&&eqN x.xs.length x.at__len&&Qz (x.at__len+1) 8 then some (Sum.inl ⟨x.l,x.bits,0,x.at__len+1,IntKind.i64.wrap (x.i+1),x.ai,x.as_,x.xs++[(IntKind.i64.wrap (x.l[x.i.toNat]?.getD 0)).tmod (↑x.bits.length:Int)]⟩) else none else none else none else some (Sum.inr ⟨x.bits,x.at__lo,x.at__len,x.ai,x.as_,x.xs⟩)
theorem YT(x:p1X):exec E2 230 (C4.Q2 1) 2 (p1.R x) (p1.H x) (J4 0 p1 (.exit 2) q1)=s1 x:=by kernel_rfl
def l1:QB:=J5 0 p1 (.exit 2) q1 s1
theorem tl1:QA (C4.Q2 1) 2=[]:=by kernel_rfl
theorem Yd  :QH Try.prog 230 none 0 (C4.Q2 1) l1:=QQ mixed (Q7 Q9 Q6 _) (by trivial) (λ_=>rfl) (λ_=>rfl) (tl1▸Q8.nil) YT
def E1:Env:=⟨ty,QJ cl,JB [(1,l1),(2,l2),(3,l3)],none⟩
structure p0X where(l bits:List (Int))(care:Int)(p q r2:List (Int))(i:Int)(ai as_ gi gs:List (Int))
def p0:Pt p0X where
 own:=[]
 t:=⟨[(1,.c (.arr (.int .u8))),(5,.c (.ptr 1 0)),(6,.c (.arr (.int .u8))),(11,.c (.ptr 4 0)),(13,.c (.it .i64)),(14,.c (.arr (.int .u8))),(15,.c (.arr (.int .u8))),(16,.c (.arr (.int .u8))),(17,.c (.it .i64))],[.st [.junk,.junk] 1 0,.st [.arr (.int .u8),.arr (.int .u8)] 1 0,.st [.junk,.junk] 1 0,.st [.junk,.junk] 1 0,.st [.arr (.int .u8),.arr (.int .u8)] 1 0]⟩
 to:=λv=>⟨v.1.1,v.1.2.2.1,v.1.2.2.2.2.1,v.1.2.2.2.2.2.1,v.1.2.2.2.2.2.2.1,v.1.2.2.2.2.2.2.2.1,v.1.2.2.2.2.2.2.2.2.1,v.2.2.1.1,v.2.2.1.2.1,v.2.2.2.2.2.1.1,v.2.2.2.2.2.1.2.1⟩
 fr:=λx=>((x.l,((),(x.bits,((),(x.care,(x.p,(x.q,(x.r2,(x.i,()))))))))),(((),((),())),((x.ai,(x.as_,())),(((),((),())),(((),((),())),((x.gi,(x.gs,())),()))))))
structure q0X where(l bits:List (Int))(care:Int)(ai as_ gi gs:List (Int))
def q0:Pt q0X where
 own:=[]
 t:=⟨[(1,.c (.arr (.int .u8))),(5,.c (.ptr 1 0)),(6,.c (.arr (.int .u8))),(11,.c (.ptr 4 0)),(13,.c (.it .i64))],[.st [.junk,.junk] 1 0,.st [.arr (.int .u8),.arr (.int .u8)] 1 0,.st [.junk,.junk] 1 0,.st [.junk,.junk] 1 0,.st [.arr (.int .u8),.arr (.int .u8)] 1 0]⟩
 to:=λv=>⟨v.1.1,v.1.2.2.1,v.1.2.2.2.2.1,v.2.2.1.1,v.2.2.1.2.1,v.2.2.2.2.2.1.1,v.2.2.2.2.2.1.2.1⟩
 fr:=λx=>((x.l,((),(x.bits,((),(x.care,()))))),(((),((),())),((x.ai,(x.as_,())),(((),((),())),(((),((),())),((x.gi,(x.gs,())),()))))))
structure z0X where(r:Bool)
def z0:Pt z0X where
 own:=[]
 t:=⟨[(4,.c (.bo))],[]⟩
 to:=λv=>⟨v.1.1⟩
 fr:=λx=>((x.r,()),())
def s0(x:p0X):Option (p0X⊕(q0X⊕z0X)):=bif decide (x.i<(↑x.bits.length:Int)) then bif inR x.i x.bits.length then bif inR x.i x.p.length then Q1 (M20.m ⟨x.bits,x.i,0⟩) λy=>bif inR x.i x.q.length||!!x.p[x.i.toNat]?.getD 0 !=y then Q1 (bif !x.p[x.i.toNat]?.getD 0 !=y then M20.m ⟨x.bits,x.i,1⟩ else some (Int.ofNat 0)) λy_1=>bif inR x.i x.r2.length||!!bif x.p[x.i.toNat]?.getD 0 !=y then true else x.q[x.i.toNat]?.getD 0 !=y_1 then Q1 (bif !bif x.p[x.i.toNat]?.getD 0 !=y then true else x.q[x.i.toNat]?.getD 0 !=y_1 then M21.m ⟨x.bits,x.i⟩ else some (Int.ofNat 0)) λy_2=>Q1 (bif !bif x.p[x.i.toNat]?.getD 0 !=y then true else x.q[x.i.toNat]?.getD 0 !=y_1 then M20.m ⟨x.bits,x.i,y_2⟩ else some (Int.ofNat 0)) λy_3=>bif bif bif x.p[x.i.toNat]?.getD 0 !=y then true else x.q[x.i.toNat]?.getD 0 !=y_1 then true else x.r2[x.i.toNat]?.getD 0 !=y_3 then some (Sum.inr (Sum.inr ⟨false⟩)) else some (Sum.inl ⟨x.l,x.bits,bif x.bits[x.i.toNat]?.getD 0 !=2 then IntKind.i64.wrap (x.care+1) else x.care,x.p,x.q,x.r2,IntKind.i64.wrap (x.i+1),x.ai,x.as_,x.gi,x.gs⟩) else none else none else none else none else some (Sum.inr (Sum.inl ⟨x.l,x.bits,x.care,x.ai,x.as_,x.gi,x.gs⟩))
theorem Qd(x:p0X):exec E1 230 (C4.Q2 0) 1 (p0.R x) (p0.H x) (Jb 0 p0 (.exit 0) q0 .ret z0)=s0 x:=by kernel_rfl
def l0:QB:=Jc 0 p0 (.exit 0) q0 .ret z0 s0
theorem tl0:QA (C4.Q2 0) 1=[]:=by kernel_rfl
theorem Qe  :QH Try.prog 230 none 0 (C4.Q2 0) l0:=Ql mixed (Q7 Q9 Q6 _) (by trivial) (by trivial) (λ_=>rfl) (λ_=>rfl) (λ_=>rfl) (tl0▸Q8.nil) Qd
def E0:Env:=⟨ty,QJ cl,JB [(0,l0),(1,l1),(2,l2),(3,l3)],none⟩
def m(x:gX):Option fY:=Q1 (M9.m ⟨40,[(x.xi,x.xs)]⟩) λy=>bif bif !y then true else decide ((↑x.l.length:Int)>20) then Q1 (M10.m PUnit.unit) λy=>some y else Q1 (M11.m ⟨x.xi,x.xs⟩) λy=>Q1 (M14.m ⟨y.1,y.2⟩) λy_1=>Q1 (M19.m ⟨y.1,y.2,0⟩) λy_2=>Q1 (M19.m ⟨y.1,y.2,1⟩) λy_3=>Q1 (M19.m ⟨y.1,y.2,2⟩) λy_4=>Q1 (M14.m ⟨y_2.1,y_2.2.1⟩) λy_5=>Q1 (M14.m ⟨y_3.1,y_3.2.1⟩) λy_6=>Q1 (M14.m ⟨y_4.1,y_4.2.1⟩) λy_7=>bif bif bif bif bif bif y_2.2.2 !=0 then true else y_3.2.2 !=0 then true else y_4.2.2 !=0 then true else (↑(List.length y_5):Int) !=(↑(List.length y_1):Int) then true else (↑(List.length y_6):Int) !=(↑(List.length y_1):Int) then true else (↑(List.length y_7):Int) !=(↑(List.length y_1):Int) then some false else Q1 (iter s0 ⟨x.l,y_1,0,y_5,y_6,y_7,0,y.1,y.2,y_4.1,y_4.2.1⟩) λs=>Qn s (λy=>Q1 (M22.m ⟨y.ai,y.as_⟩) λy_8=>Q1 (bif !y_8 !=y.care then M22.m ⟨y.gi,y.gs⟩ else some (Int.ofNat 0)) λy_9=>bif bif y_8 !=y.care then true else y_9 !=(↑y.bits.length:Int) then some false else Q1 (iter s1 ⟨y.l,y.bits,0,0,0,y.ai,y.as_,[]⟩) λy=>Q1 (M23o.m ⟨y.ai,y.as_,y.at__lo,y.at__len,y.xs⟩) λy_10=>Q1 (M14.m ⟨y_10.1,y_10.2.1⟩) λy_11=>Q1 (bif !bif y_10.2.2.1 !=0 then true else (↑(List.length y_11):Int) !=(↑y.bits.length:Int) then M17.m ⟨y_10.1,y_10.2.1,y.ai,y.as_⟩ else some false) λy_12=>bif bif bif y_10.2.2.1 !=0 then true else (↑(List.length y_11):Int) !=(↑y.bits.length:Int) then true else !y_12 then some false else Q1 (iter s2 ⟨y.bits,y.at__lo,y.at__len,y_11,0,y.ai,y.as_,y.xs⟩) λs=>Qn s (λy=>Q1 (bif !decide ((↑y.bits.length:Int)>8) then M24.m ⟨y.ai,y.as_⟩ else some false) λy_13=>Q1 (bif bif decide ((↑y.bits.length:Int)>8) then true else y_13 then M10.m PUnit.unit else some false) λy_14=>some (bif bif decide ((↑y.bits.length:Int)>8) then true else y_13 then y_14 else false)) λz=>some z.r) λz=>some z.r
theorem QW(x:gX):exec E0 230 C4 0 (QX 0 (g.A x)) (g.H x) (finish 0 ty [.tmp 4] f)=m x:=by kernel_rfl
theorem tl:QA C4 0=[(0,C4.Q2 0),(1,C4.Q2 1),(2,C4.Q2 2)]:=by kernel_rfl
theorem known:QV Try.prog 4 g f m:=
 QD mixed (Q7 Q9 Q6 _) s4 rfl rfl tl (Q8.cons rfl Qe (Q8.cons rfl Yd (Q8.cons rfl l2_ok Q8.nil))) (λ_ _=>⟨rfl,rfl⟩) (λ_ _=>⟨rfl,rfl⟩) QW
end M4
namespace M5
structure gX where(xi xs yi ys zi zs:List (Int))
def g:Sg gX:=⟨[.agg [.arr (.int .u8),.arr (.int .u8)],.agg [.arr (.int .u8),.arr (.int .u8)],.agg [.arr (.int .u8),.arr (.int .u8)]],[],λa b=>⟨a.1.1,a.1.2.1,a.2.1.1,a.2.1.2.1,a.2.2.1.1,a.2.2.1.2.1⟩,λx=>((x.xi,(x.xs,())),((x.yi,(x.ys,())),((x.zi,(x.zs,())),()))),λx=>()⟩
abbrev fY:=Bool
def f:Ft fY:=⟨none,.c (.bo),[],λa b=>(a),λy=>y,λy=>()⟩
def cl:List (FuncId×Con):=[(9,M9.con),(10,M10.con),(11,M11.con),(12,M12.con),(13,M13.con),(17,M17.con),(25,M25.con)]
theorem Q6:QT Try.prog cl:=⟨M9.Q5,M10.Q5,M11.Q5,M12.Q5,M13.Q5,M17.Q5,M25.Q5,trivial⟩
def E0:Env:=⟨ty,QJ cl,λ_=>none,none⟩
def m(x:gX):Option fY:=Q1 (M9.m ⟨30,[(x.xi,x.xs),(x.yi,x.ys),(x.zi,x.zs)]⟩) λy=>bif !y then Q1 (M10.m PUnit.unit) λy=>some y else Q1 (M11.m ⟨x.xi,x.xs⟩) λy=>Q1 (M12.m ⟨x.xi,x.xs,x.yi,x.ys⟩) λy_1=>Q1 (M11.m ⟨y_1.1,y_1.2⟩) λy_2=>Q1 (M12.m ⟨x.xi,x.xs,x.zi,x.zs⟩) λy_3=>Q1 (M11.m ⟨y_3.1,y_3.2⟩) λy_4=>Q1 (M13.m ⟨y.1,y.2,y_2.1,y_2.2⟩) λy_5=>Q1 (M13.m ⟨y_2.1,y_2.2,y.1,y.2⟩) λy_6=>Q1 (M13.m ⟨y.1,y.2,y.1,y.2⟩) λy_7=>Q1 (M13.m ⟨y_2.1,y_2.2,y_4.1,y_4.2⟩) λy_8=>Q1 (M13.m ⟨y_5.1,y_5.2.1,y_4.1,y_4.2⟩) λy_9=>Q1 (M13.m ⟨y.1,y.2,y_8.1,y_8.2.1⟩) λy_10=>Q1 (bif !y_5.2.2 !=y_6.2.2&&y_5.2.2==0 then M25.m ⟨y_5.1,y_5.2.1,y_6.1,y_6.2.1⟩ else some false) λy_11=>Q1 (bif !bif bif y_5.2.2 !=y_6.2.2 then true else bif y_5.2.2==0 then !y_11 else false then true else y_7.2.2 !=0 then M25.m ⟨y_7.1,y_7.2.1,y.1,y.2⟩ else some false) λy_12=>Q1 (bif (!bif bif bif y_5.2.2 !=y_6.2.2 then true else bif y_5.2.2==0 then !y_11 else false then true else y_7.2.2 !=0 then true else !y_12)&&y_5.2.2==0 then M17.m ⟨y.1,y.2,y_5.1,y_5.2.1⟩ else some false) λy_13=>Q1 (bif (!bif bif bif y_5.2.2 !=y_6.2.2 then true else bif y_5.2.2==0 then !y_11 else false then true else y_7.2.2 !=0 then true else !y_12)&&y_5.2.2==0&&!!y_13 then M17.m ⟨y_2.1,y_2.2,y_5.1,y_5.2.1⟩ else some false) λy_14=>bif bif bif bif bif y_5.2.2 !=y_6.2.2 then true else bif y_5.2.2==0 then !y_11 else false then true else y_7.2.2 !=0 then true else !y_12 then true else bif y_5.2.2==0 then bif !y_13 then true else !y_14 else false then some false else Q1 (bif (bif y_5.2.2==0 then y_8.2.2==0 else false)&&!y_9.2.2 !=y_10.2.2&&y_9.2.2==0 then M25.m ⟨y_9.1,y_9.2.1,y_10.1,y_10.2.1⟩ else some false) λy_15=>bif bif bif y_5.2.2==0 then y_8.2.2==0 else false then bif y_9.2.2 !=y_10.2.2 then true else bif y_9.2.2==0 then !y_15 else false else false then some false else Q1 (M17.m ⟨y.1,y.2,y_2.1,y_2.2⟩) λy_16=>Q1 (bif y_16 then M17.m ⟨y_2.1,y_2.2,y.1,y.2⟩ else some false) λy_17=>Q1 (bif y_16 then M25.m ⟨y.1,y.2,y_2.1,y_2.2⟩ else some false) λy_18=>Q1 (bif !bif y_16 then !y_17==y_18 else false then M17.m ⟨y.1,y.2,y_2.1,y_2.2⟩ else some false) λy_19=>Q1 (bif (!bif y_16 then !y_17==y_18 else false)&&y_19 then M17.m ⟨y_2.1,y_2.2,y_4.1,y_4.2⟩ else some false) λy_20=>Q1 (bif (!bif y_16 then !y_17==y_18 else false)&&bif y_19 then y_20 else false then M17.m ⟨y.1,y.2,y_4.1,y_4.2⟩ else some false) λy_21=>Q1 (bif !bif bif y_16 then !y_17==y_18 else false then true else bif bif y_19 then y_20 else false then !y_21 else false then M17.m ⟨y.1,y.2,y.1,y.2⟩ else some false) λy_22=>bif bif bif bif y_16 then !y_17==y_18 else false then true else bif bif y_19 then y_20 else false then !y_21 else false then true else !y_22 then some false else Q1 (M17.m ⟨y.1,y.2,y_4.1,y_4.2⟩) λy=>Q1 (bif !!y then M17.m ⟨y_2.1,y_2.2,y_4.1,y_4.2⟩ else some false) λy_23=>Q1 (bif (!bif !y then true else !y_23)&&y_5.2.2==0 then M17.m ⟨y_5.1,y_5.2.1,y_4.1,y_4.2⟩ else some false) λy_24=>Q1 (bif bif bif !y then true else !y_23 then true else bif y_5.2.2==0 then y_24 else false then M10.m PUnit.unit else some false) λy_25=>some (bif bif bif !y then true else !y_23 then true else bif y_5.2.2==0 then y_24 else false then y_25 else false)
theorem QW(x:gX):exec E0 191 C5 0 (QX 0 (g.A x)) (g.H x) (finish 0 ty [.tmp 6] f)=m x:=by kernel_rfl
theorem tl:QA C5 0=[]:=by kernel_rfl
theorem known:QV Try.prog 5 g f m:=
 QD mixed (Q7 Q9 Q6 _) s5 rfl rfl tl Q8.nil (λ_ _=>⟨rfl,rfl⟩) (λ_ _=>⟨rfl,rfl⟩) QW
end M5
namespace M6
structure gX where(xi xs:List (Int))(s:List UInt8)
def g:Sg gX:=⟨[.agg [.arr (.int .u8),.arr (.int .u8)],.c (.sg)],[],λa b=>⟨a.1.1,a.1.2.1,a.2.1⟩,λx=>((x.xi,(x.xs,())),(x.s,())),λx=>()⟩
abbrev fY:=Bool
def f:Ft fY:=⟨none,.c (.bo),[],λa b=>(a),λy=>y,λy=>()⟩
def cl:List (FuncId×Con):=[(9,M9.con),(10,M10.con),(11,M11.con),(26,M26.con),(27,M27.con),(25,M25.con)]
theorem Q6:QT Try.prog cl:=⟨M9.Q5,M10.Q5,M11.Q5,M26.Q5,M27.Q5,M25.Q5,trivial⟩
def E2:Env:=⟨ty,QJ cl,λ_=>none,none⟩
structure p1X where(s:List UInt8)(bars:Int)(good:Bool)(i:Int)
def p1:Pt p1X where
 own:=[]
 t:=⟨[(1,.c (.sg)),(10,.c (.it .i64)),(11,.c (.bo)),(12,.c (.it .i64))],[]⟩
 to:=λv=>⟨v.1.1,v.1.2.1,v.1.2.2.1,v.1.2.2.2.1⟩
 fr:=λx=>((x.s,(x.bars,(x.good,(x.i,())))),())
structure q1X where(s:List UInt8)(bars:Int)(good:Bool)
def q1:Pt q1X where
 own:=[]
 t:=⟨[(1,.c (.sg)),(10,.c (.it .i64)),(11,.c (.bo))],[]⟩
 to:=λv=>⟨v.1.1,v.1.2.1,v.1.2.2.1⟩
 fr:=λx=>((x.s,(x.bars,(x.good,()))),())
def s1(x:p1X):Option (p1X⊕q1X):=bif decide (x.i<(↑x.s.length:Int)) then bif inR x.i x.s.length then bif bif (inR x.i x.s.length||!x.good)&&((inR x.i x.s.length||!(x.good&&!J8 x.s x.i.toNat==48))&&((inR x.i x.s.length||!(x.good&&!bif J8 x.s x.i.toNat==48 then true else J8 x.s x.i.toNat==49))&&true)) then true else J8 x.s x.i.toNat==124 then some (Sum.inl ⟨x.s,bif J8 x.s x.i.toNat==124 then IntKind.i64.wrap (x.bars+1) else x.bars,bif J8 x.s x.i.toNat==124 then x.good else bif x.good then bif bif J8 x.s x.i.toNat==48 then true else J8 x.s x.i.toNat==49 then true else J8 x.s x.i.toNat==88 else false,IntKind.i64.wrap (x.i+1)⟩) else none else none else some (Sum.inr ⟨x.s,x.bars,x.good⟩)
theorem YT(x:p1X):exec E2 148 (C6.Q2 1) 2 (p1.R x) (p1.H x) (J4 0 p1 (.exit 2) q1)=s1 x:=by kernel_rfl
def l1:QB:=J5 0 p1 (.exit 2) q1 s1
theorem tl1:QA (C6.Q2 1) 2=[]:=by kernel_rfl
theorem Yd  :QH Try.prog 148 none 0 (C6.Q2 1) l1:=QQ mixed (Q7 Q9 Q6 _) (by trivial) (λ_=>rfl) (λ_=>rfl) (tl1▸Q8.nil) YT
def E1:Env:=⟨ty,QJ cl,JB [(1,l1)],none⟩
structure p0X where(s t:List UInt8)(i:Int)(xi xs ai as_:List (Int))
def p0:Pt p0X where
 own:=[]
 t:=⟨[(1,.c (.sg)),(2,.c (.ptr 0 0)),(5,.c (.ptr 1 0)),(6,.c (.sg)),(9,.c (.it .i64))],[.st [.arr (.int .u8),.arr (.int .u8)] 1 0,.st [.arr (.int .u8),.arr (.int .u8)] 1 0]⟩
 to:=λv=>⟨v.1.1,v.1.2.2.2.1,v.1.2.2.2.2.1,v.2.1.1,v.2.1.2.1,v.2.2.1.1,v.2.2.1.2.1⟩
 fr:=λx=>((x.s,((),((),(x.t,(x.i,()))))),((x.xi,(x.xs,())),((x.ai,(x.as_,())),())))
structure q0X where(s:List UInt8)
def q0:Pt q0X where
 own:=[]
 t:=⟨[(1,.c (.sg))],[]⟩
 to:=λv=>⟨v.1.1⟩
 fr:=λx=>((x.s,()),())
structure z0X where(r:Bool)
def z0:Pt z0X where
 own:=[]
 t:=⟨[(4,.c (.bo))],[]⟩
 to:=λv=>⟨v.1.1⟩
 fr:=λx=>((x.r,()),())
def s0(x:p0X):Option (p0X⊕(q0X⊕z0X)):=bif decide (x.i<(↑x.xi.length:Int)) then bif inR x.i x.t.length then bif inR x.i x.ai.length then bif inR (x.ai[x.i.toNat]?.getD 0) 3 then bif J8 x.t x.i.toNat !=J8 [48,49,88] (Int.toNat (x.ai[x.i.toNat]?.getD 0)) then some (Sum.inr (Sum.inr ⟨false⟩)) else some (Sum.inl ⟨x.s,x.t,IntKind.i64.wrap (x.i+1),x.xi,x.xs,x.ai,x.as_⟩) else none else none else none else some (Sum.inr (Sum.inl ⟨x.s⟩))
theorem Qd(x:p0X):exec E1 148 (C6.Q2 0) 1 (p0.R x) (p0.H x) (Jb 0 p0 (.exit 0) q0 .ret z0)=s0 x:=by kernel_rfl
def l0:QB:=Jc 0 p0 (.exit 0) q0 .ret z0 s0
theorem tl0:QA (C6.Q2 0) 1=[]:=by kernel_rfl
theorem Qe  :QH Try.prog 148 none 0 (C6.Q2 0) l0:=Ql mixed (Q7 Q9 Q6 _) (by trivial) (by trivial) (λ_=>rfl) (λ_=>rfl) (λ_=>rfl) (tl0▸Q8.nil) Qd
def E0:Env:=⟨ty,QJ cl,JB [(0,l0),(1,l1)],none⟩
def m(x:gX):Option fY:=Q1 (M9.m ⟨40,[(x.xi,x.xs)]⟩) λy=>bif bif !y then true else decide ((↑x.s.length:Int)>60) then Q1 (M10.m PUnit.unit) λy=>some y else Q1 (M11.m ⟨x.xi,x.xs⟩) λy=>Q1 (M26.m ⟨y.1,y.2⟩) λy_1=>Q1 (M27.m ⟨y_1⟩) λy_2=>Q1 (bif !y_2.2.2 !=0 then M25.m ⟨y.1,y.2,y_2.1,y_2.2.1⟩ else some false) λy_3=>bif inR (↑x.xi.length:Int) (List.length y_1)||!!bif bif y_2.2.2 !=0 then true else !y_3 then true else (↑(List.length y_1):Int) !=IntKind.i64.wrap (IntKind.i64.wrap ((↑x.xi.length:Int)+1)+(↑x.xs.length:Int)) then bif bif bif bif y_2.2.2 !=0 then true else !y_3 then true else (↑(List.length y_1):Int) !=IntKind.i64.wrap (IntKind.i64.wrap ((↑x.xi.length:Int)+1)+(↑x.xs.length:Int)) then true else J8 y_1 (↑x.xi.length:Int).toNat !=124 then some false else Q1 (iter s0 ⟨x.s,y_1,0,x.xi,x.xs,y.1,y.2⟩) λs=>Qn s (λy=>Q1 (iter s1 ⟨y.s,0,true,0⟩) λy=>Q1 (M27.m ⟨y.s⟩) λy_4=>bif bif y.bars !=1 then true else !y.good then Q1 (bif bif y_4.2.2==4 then IntKind.i64.wrap ((↑y_4.1.length:Int)+(↑y_4.2.1.length:Int))==0 else false then M10.m PUnit.unit else some false) λy=>some (bif bif y_4.2.2==4 then IntKind.i64.wrap ((↑y_4.1.length:Int)+(↑y_4.2.1.length:Int))==0 else false then y else false) else Q1 (bif y_4.2.2==0 then M26.m ⟨y_4.1,y_4.2.1⟩ else some []) λy_5=>Q1 (bif bif y_4.2.2==0 then y_5==y.s else false then M10.m PUnit.unit else some false) λy_6=>some (bif bif y_4.2.2==0 then y_5==y.s else false then y_6 else false)) λz=>some z.r else none
theorem QW(x:gX):exec E0 148 C6 0 (QX 0 (g.A x)) (g.H x) (finish 0 ty [.tmp 4] f)=m x:=by kernel_rfl
theorem tl:QA C6 0=[(0,C6.Q2 0),(1,C6.Q2 1)]:=by kernel_rfl
theorem known:QV Try.prog 6 g f m:=
 QD mixed (Q7 Q9 Q6 _) s6 rfl rfl tl (Q8.cons rfl Qe (Q8.cons rfl Yd Q8.nil)) (λ_ _=>⟨rfl,rfl⟩) (λ_ _=>⟨rfl,rfl⟩) QW
end M6
namespace M7
structure gX where(a0 a1 b0 b1:List (Int))(w:Int)(l:List (Int))
def g:Sg gX:=⟨[.agg [.arr (.int .u8),.arr (.int .u8),.arr (.int .u8),.arr (.int .u8)],.c (.it .u8),.c (.arr (.int .i64))],[],λa b=>⟨a.1.1,a.1.2.1,a.1.2.2.1,a.1.2.2.2.1,a.2.1,a.2.2.1⟩,λx=>((x.a0,(x.a1,(x.b0,(x.b1,())))),(x.w,(x.l,()))),λx=>()⟩
abbrev fY:=Bool
def f:Ft fY:=⟨none,.c (.bo),[],λa b=>(a),λy=>y,λy=>()⟩
def cl:List (FuncId×Con):=[(10,M10.con),(28,M28.con),(13,M13.con),(29,M29.con),(16,M16.con),(17,M17.con),(18,M18.con),(19,M19.con),(23,M23.con),(25,M25.con),(30,M30.con),(22,M22.con),(26,M26.con)]
theorem Q6:QT Try.prog cl:=⟨M10.Q5,M28.Q5,M13.Q5,M29.Q5,M16.Q5,M17.Q5,M18.Q5,M19.Q5,M23.Q5,M25.Q5,M30.Q5,M22.Q5,M26.Q5,trivial⟩
def E1:Env:=⟨ty,QJ cl,λ_=>none,none⟩
structure p0X where(w:Int)(l:List (Int))(e n way bs i:Int)(ai as_:List (Int))
def p0:Pt p0X where
 own:=[]
 t:=⟨[(1,.c (.it .u8)),(2,.c (.arr (.int .i64))),(7,.c (.ptr 1 0)),(8,.c (.it .i64)),(11,.c (.it .i64)),(15,.c (.it .i64)),(16,.c (.it .i64)),(17,.c (.it .i64))],[.st [.junk,.junk,.junk,.junk] 1 0,.st [.arr (.int .u8),.arr (.int .u8)] 1 0]⟩
 to:=λv=>⟨v.1.1,v.1.2.1,v.1.2.2.2.1,v.1.2.2.2.2.1,v.1.2.2.2.2.2.1,v.1.2.2.2.2.2.2.1,v.1.2.2.2.2.2.2.2.1,v.2.2.1.1,v.2.2.1.2.1⟩
 fr:=λx=>((x.w,(x.l,((),(x.e,(x.n,(x.way,(x.bs,(x.i,())))))))),(((),((),((),((),())))),((x.ai,(x.as_,())),())))
structure q0X where(w:Int)(l:List (Int))(e n way bs:Int)(ai as_:List (Int))
def q0:Pt q0X where
 own:=[]
 t:=⟨[(1,.c (.it .u8)),(2,.c (.arr (.int .i64))),(7,.c (.ptr 1 0)),(8,.c (.it .i64)),(11,.c (.it .i64)),(15,.c (.it .i64)),(16,.c (.it .i64))],[.st [.junk,.junk,.junk,.junk] 1 0,.st [.arr (.int .u8),.arr (.int .u8)] 1 0]⟩
 to:=λv=>⟨v.1.1,v.1.2.1,v.1.2.2.2.1,v.1.2.2.2.2.1,v.1.2.2.2.2.2.1,v.1.2.2.2.2.2.2.1,v.2.2.1.1,v.2.2.1.2.1⟩
 fr:=λx=>((x.w,(x.l,((),(x.e,(x.n,(x.way,(x.bs,()))))))),(((),((),((),((),())))),((x.ai,(x.as_,())),())))
def s0(x:p0X):Option (p0X⊕q0X):=bif decide (x.i<(↑x.l.length:Int)) then bif inR x.i x.l.length||!x.bs==0 then bif inR x.i x.l.length||!(x.bs==0&&!decide (x.l[x.i.toNat]?.getD 0<0)) then some (Sum.inl ⟨x.w,x.l,x.e,x.n,x.way,bif bif x.bs==0 then bif decide (x.l[x.i.toNat]?.getD 0<0) then true else decide (x.l[x.i.toNat]?.getD 0>=x.n) else false then 1 else x.bs,IntKind.i64.wrap (x.i+1),x.ai,x.as_⟩) else none else none else some (Sum.inr ⟨x.w,x.l,x.e,x.n,x.way,x.bs,x.ai,x.as_⟩)
theorem Qd(x:p0X):exec E1 267 (C7.Q2 0) 1 (p0.R x) (p0.H x) (J4 0 p0 (.exit 0) q0)=s0 x:=by kernel_rfl
def l0:QB:=J5 0 p0 (.exit 0) q0 s0
theorem tl0:QA (C7.Q2 0) 1=[]:=by kernel_rfl
theorem Qe  :QH Try.prog 267 none 0 (C7.Q2 0) l0:=QQ mixed (Q7 Q9 Q6 _) (by trivial) (λ_=>rfl) (λ_=>rfl) (tl0▸Q8.nil) Qd
def E0:Env:=⟨ty,QJ cl,JB [(0,l0)],none⟩
def m(x:gX):Option fY:=bif bif bif decide (IntKind.i64.wrap ((↑x.a0.length:Int)+(↑x.a1.length:Int))>40) then true else decide (IntKind.i64.wrap ((↑x.b0.length:Int)+(↑x.b1.length:Int))>40) then true else decide ((↑x.l.length:Int)>20) then Q1 (M10.m PUnit.unit) λy=>some y else Q1 (M28.m ⟨x.a0,x.a1⟩) λy=>Q1 (M28.m ⟨x.b0,x.b1⟩) λy_1=>Q1 (M13.m ⟨y.1,y.2.1,y_1.1,y_1.2.1⟩) λy_2=>Q1 (M29.m ⟨y.1,y.2.1⟩) λy_3=>Q1 (bif (!bif bif y_3 !=y.2.2 then true else !bif y_2.2.2==bif bif (bif y.2.2==0 then y_1.2.2 else y.2.2)==0 then bif (↑y.1.length:Int) !=(↑y_1.1.length:Int) then true else (↑y.2.1.length:Int) !=(↑y_1.2.1.length:Int) else false then 8 else bif y.2.2==0 then y_1.2.2 else y.2.2 then true else bif (bif bif (bif y.2.2==0 then y_1.2.2 else y.2.2)==0 then bif (↑y.1.length:Int) !=(↑y_1.1.length:Int) then true else (↑y.2.1.length:Int) !=(↑y_1.2.1.length:Int) else false then 8 else bif y.2.2==0 then y_1.2.2 else y.2.2)==0 then y_2.2.2==9 else false then true else bif y_2.2.2 !=0 then decide (IntKind.i64.wrap ((↑y_2.1.length:Int)+(↑y_2.2.1.length:Int))>0) else false)&&(bif bif (bif y.2.2==0 then y_1.2.2 else y.2.2)==0 then bif (↑y.1.length:Int) !=(↑y_1.1.length:Int) then true else (↑y.2.1.length:Int) !=(↑y_1.2.1.length:Int) else false then 8 else bif y.2.2==0 then y_1.2.2 else y.2.2) !=0 then M16.m ⟨y.1,y.2.1,y_1.1,y_1.2.1⟩ else some false) λy_4=>Q1 (bif (!bif bif y_3 !=y.2.2 then true else !bif y_2.2.2==bif bif (bif y.2.2==0 then y_1.2.2 else y.2.2)==0 then bif (↑y.1.length:Int) !=(↑y_1.1.length:Int) then true else (↑y.2.1.length:Int) !=(↑y_1.2.1.length:Int) else false then 8 else bif y.2.2==0 then y_1.2.2 else y.2.2 then true else bif (bif bif (bif y.2.2==0 then y_1.2.2 else y.2.2)==0 then bif (↑y.1.length:Int) !=(↑y_1.1.length:Int) then true else (↑y.2.1.length:Int) !=(↑y_1.2.1.length:Int) else false then 8 else bif y.2.2==0 then y_1.2.2 else y.2.2)==0 then y_2.2.2==9 else false then true else bif y_2.2.2 !=0 then decide (IntKind.i64.wrap ((↑y_2.1.length:Int)+(↑y_2.2.1.length:Int))>0) else false)&&(bif bif (bif y.2.2==0 then y_1.2.2 else y.2.2)==0 then bif (↑y.1.length:Int) !=(↑y_1.1.length:Int) then true else (↑y.2.1.length:Int) !=(↑y_1.2.1.length:Int) else false then 8 else bif y.2.2==0 then y_1.2.2 else y.2.2) !=0&&!y_4 then M17.m ⟨y.1,y.2.1,y_1.1,y_1.2.1⟩ else some false) λy_5=>Q1 (bif (!bif bif y_3 !=y.2.2 then true else !bif y_2.2.2==bif bif (bif y.2.2==0 then y_1.2.2 else y.2.2)==0 then bif (↑y.1.length:Int) !=(↑y_1.1.length:Int) then true else (↑y.2.1.length:Int) !=(↑y_1.2.1.length:Int) else false then 8 else bif y.2.2==0 then y_1.2.2 else y.2.2 then true else bif (bif bif (bif y.2.2==0 then y_1.2.2 else y.2.2)==0 then bif (↑y.1.length:Int) !=(↑y_1.1.length:Int) then true else (↑y.2.1.length:Int) !=(↑y_1.2.1.length:Int) else false then 8 else bif y.2.2==0 then y_1.2.2 else y.2.2)==0 then y_2.2.2==9 else false then true else bif y_2.2.2 !=0 then decide (IntKind.i64.wrap ((↑y_2.1.length:Int)+(↑y_2.2.1.length:Int))>0) else false)&&(bif bif (bif y.2.2==0 then y_1.2.2 else y.2.2)==0 then bif (↑y.1.length:Int) !=(↑y_1.1.length:Int) then true else (↑y.2.1.length:Int) !=(↑y_1.2.1.length:Int) else false then 8 else bif y.2.2==0 then y_1.2.2 else y.2.2) !=0&&!bif y_4 then true else y_5 then M18.m ⟨y.1,y.2.1,y_1.1,y_1.2.1⟩ else some (Int.ofNat 0)) λy_6=>bif bif bif bif y_3 !=y.2.2 then true else !bif y_2.2.2==bif bif (bif y.2.2==0 then y_1.2.2 else y.2.2)==0 then bif (↑y.1.length:Int) !=(↑y_1.1.length:Int) then true else (↑y.2.1.length:Int) !=(↑y_1.2.1.length:Int) else false then 8 else bif y.2.2==0 then y_1.2.2 else y.2.2 then true else bif (bif bif (bif y.2.2==0 then y_1.2.2 else y.2.2)==0 then bif (↑y.1.length:Int) !=(↑y_1.1.length:Int) then true else (↑y.2.1.length:Int) !=(↑y_1.2.1.length:Int) else false then 8 else bif y.2.2==0 then y_1.2.2 else y.2.2)==0 then y_2.2.2==9 else false then true else bif y_2.2.2 !=0 then decide (IntKind.i64.wrap ((↑y_2.1.length:Int)+(↑y_2.2.1.length:Int))>0) else false then true else bif (bif bif (bif y.2.2==0 then y_1.2.2 else y.2.2)==0 then bif (↑y.1.length:Int) !=(↑y_1.1.length:Int) then true else (↑y.2.1.length:Int) !=(↑y_1.2.1.length:Int) else false then 8 else bif y.2.2==0 then y_1.2.2 else y.2.2) !=0 then bif bif y_4 then true else y_5 then true else y_6 != -1 else false then some false else Q1 (iter s0 ⟨x.w,x.l,y.2.2,IntKind.i64.wrap ((↑y.1.length:Int)+(↑y.2.1.length:Int)),bif bif y.2.2==0 then decide (x.w>2) else false then 1 else y.2.2,y.2.2,0,y.1,y.2.1⟩) λy=>Q1 (M19.m ⟨y.ai,y.as_,y.w⟩) λy_7=>Q1 (M23.m ⟨y.ai,y.as_,y.l⟩) λy_8=>Q1 (bif !bif bif bif y_7.2.2 !=y.way then true else y_8.2.2 !=y.bs then true else bif y_7.2.2 !=0 then decide (IntKind.i64.wrap ((↑y_7.1.length:Int)+(↑y_7.2.1.length:Int))>0) else false then true else bif y_8.2.2 !=0 then decide (IntKind.i64.wrap ((↑y_8.1.length:Int)+(↑y_8.2.1.length:Int))>0) else false then M25.m ⟨y.ai,y.as_,y.ai,y.as_⟩ else some false) λy_9=>bif bif bif bif bif y_7.2.2 !=y.way then true else y_8.2.2 !=y.bs then true else bif y_7.2.2 !=0 then decide (IntKind.i64.wrap ((↑y_7.1.length:Int)+(↑y_7.2.1.length:Int))>0) else false then true else bif y_8.2.2 !=0 then decide (IntKind.i64.wrap ((↑y_8.1.length:Int)+(↑y_8.2.1.length:Int))>0) else false then true else !y_9 then some false else bif y.e !=0 then Q1 (M30.m ⟨y.ai,y.as_⟩) λy_10=>Q1 (bif bif y_10.2==y.e then (↑y_10.1.length:Int)==0 else false then M22.m ⟨y.ai,y.as_⟩ else some (Int.ofNat 0)) λy_11=>Q1 (bif bif bif y_10.2==y.e then (↑y_10.1.length:Int)==0 else false then y_11==0 else false then M26.m ⟨y.ai,y.as_⟩ else some []) λy_12=>Q1 (bif bif bif bif y_10.2==y.e then (↑y_10.1.length:Int)==0 else false then y_11==0 else false then y_12==[] else false then M10.m PUnit.unit else some false) λy_13=>some (bif bif bif bif y_10.2==y.e then (↑y_10.1.length:Int)==0 else false then y_11==0 else false then y_12==[] else false then y_13 else false) else Q1 (M10.m PUnit.unit) λy=>some y
theorem QW(x:gX):exec E0 267 C7 0 (QX 0 (g.A x)) (g.H x) (finish 0 ty [.tmp 6] f)=m x:=by kernel_rfl
theorem tl:QA C7 0=[(0,C7.Q2 0)]:=by kernel_rfl
theorem known:QV Try.prog 7 g f m:=
 QD mixed (Q7 Q9 Q6 _) s7 rfl rfl tl (Q8.cons rfl Qe Q8.nil) (λ_ _=>⟨rfl,rfl⟩) (λ_ _=>⟨rfl,rfl⟩) QW
end M7
namespace M13q
structure gX where(ai as_ bi bs:List (Int))
def g:Sg gX:=⟨[.agg [.arr (.int .u8),.arr (.int .u8)],.agg [.arr (.int .u8),.arr (.int .u8)]],[],λa b=>⟨a.1.1,a.1.2.1,a.2.1.1,a.2.1.2.1⟩,λx=>((x.ai,(x.as_,())),((x.bi,(x.bs,())),())),λx=>()⟩
abbrev fY:=Nat×Nat×Nat×Nat×Nat×Nat×Int×List (Int)×List (Int)
def f:Ft fY:=⟨some [3,4,0,1,2,5,6,7,8,9],.tup [.inr [.slc 0 0 1,.slc 1 0 1],.inl (.it .i64)],[.arr (.int .u8) 0,.arr (.int .u8) 0],λa b=>(a.1.1.1,a.1.1.2.1,a.1.1.2.2,a.1.2.1.1,a.1.2.1.2.1,a.1.2.1.2.2,a.2.1,b.1,b.2.1),λy=>(((y.1,y.2.1,y.2.2.1),((y.2.2.2.1,y.2.2.2.2.1,y.2.2.2.2.2.1),())),(y.2.2.2.2.2.2.1,())),λy=>(y.2.2.2.2.2.2.2.1,(y.2.2.2.2.2.2.2.2,()))⟩
def cl:List (FuncId×Con):=[(33,M33.con),(16,M16.con),(34,M34.con),(35,M35.con),(36,M36o.con)]
theorem Q6:QT Try.prog cl:=⟨M33.Q5,M16.Q5,M34.Q5,M35.Q5,M36o.Q5,trivial⟩
def R0:CC:=C13.Zf 0
def Xl:Env:=⟨ty,QJ cl,λ_=>none,none⟩
structure XT where(i:Int)(v:Nat)(xs ys:List (Int))(oi_lo oi_len oi_cap os_lo os_len os_cap:Nat)(l:List (Int))(bi_lo bi_len bi_cap bs_lo bs_len bs_cap:Nat)
def Ke:Pt XT where
 own:=[]
 t:=⟨[(4,.c (.ptr 2 0)),(7,.c (.ptr 5 0)),(8,.c (.ptr 6 0)),(29,.c (.it .i64)),(30,.c (.el 3 0 1 0)),(1000000,.c (.clo 1000000 [])),(1000001,.c (.ptr 9 0)),(2000004,.c (.ptr 2 0)),(2000007,.c (.ptr 5 0)),(2000008,.c (.ptr 6 0))],[.st [.junk,.junk] 1 0,.st [.junk,.junk] 1 0,.st [.junk,.junk] 1 0,.arr (.int .u8) 0,.arr (.int .u8) 0,.st [.slc 3 0 1,.slc 4 0 1] 1 0,.st [.arr (.int .u8)] 1 0,.st [.junk] 1 0,.st [.junk] 1 0,.st [.slc 3 0 1,.slc 4 0 1] 1 0]⟩
 to:=λv=>⟨v.1.2.2.2.1,v.1.2.2.2.2.1,v.2.2.2.2.1,v.2.2.2.2.2.1,v.2.2.2.2.2.2.1.1.1,v.2.2.2.2.2.2.1.1.2.1,v.2.2.2.2.2.2.1.1.2.2,v.2.2.2.2.2.2.1.2.1.1,v.2.2.2.2.2.2.1.2.1.2.1,v.2.2.2.2.2.2.1.2.1.2.2,v.2.2.2.2.2.2.2.1.1,v.2.2.2.2.2.2.2.2.2.2.1.1.1,v.2.2.2.2.2.2.2.2.2.2.1.1.2.1,v.2.2.2.2.2.2.2.2.2.2.1.1.2.2,v.2.2.2.2.2.2.2.2.2.2.1.2.1.1,v.2.2.2.2.2.2.2.2.2.2.1.2.1.2.1,v.2.2.2.2.2.2.2.2.2.2.1.2.1.2.2⟩
 fr:=λx=>(((),((),((),(x.i,(x.v,((),((),((),((),((),())))))))))),(((),((),())),(((),((),())),(((),((),())),(x.xs,(x.ys,(((x.oi_lo,x.oi_len,x.oi_cap),((x.os_lo,x.os_len,x.os_cap),())),((x.l,()),(((),()),(((),()),(((x.bi_lo,x.bi_len,x.bi_cap),((x.bs_lo,x.bs_len,x.bs_cap),())),())))))))))))
structure ZG where(xs ys:List (Int))(oi_lo oi_len oi_cap os_lo os_len os_cap:Nat)(l:List (Int))(bi_lo bi_len bi_cap bs_lo bs_len bs_cap:Nat)
def VF:Pt ZG where
 own:=[]
 t:=⟨[(1000000,.c (.clo 1000000 [])),(1000001,.c (.ptr 9 0)),(2000004,.c (.ptr 2 0)),(2000007,.c (.ptr 5 0)),(2000008,.c (.ptr 6 0))],[.st [.junk,.junk] 1 0,.st [.junk,.junk] 1 0,.st [.junk,.junk] 1 0,.arr (.int .u8) 0,.arr (.int .u8) 0,.st [.slc 3 0 1,.slc 4 0 1] 1 0,.st [.arr (.int .u8)] 1 0,.st [.junk] 1 0,.st [.junk] 1 0,.st [.slc 3 0 1,.slc 4 0 1] 1 0]⟩
 to:=λv=>⟨v.2.2.2.2.1,v.2.2.2.2.2.1,v.2.2.2.2.2.2.1.1.1,v.2.2.2.2.2.2.1.1.2.1,v.2.2.2.2.2.2.1.1.2.2,v.2.2.2.2.2.2.1.2.1.1,v.2.2.2.2.2.2.1.2.1.2.1,v.2.2.2.2.2.2.1.2.1.2.2,v.2.2.2.2.2.2.2.1.1,v.2.2.2.2.2.2.2.2.2.2.1.1.1,v.2.2.2.2.2.2.2.2.2.2.1.1.2.1,v.2.2.2.2.2.2.2.2.2.2.1.1.2.2,v.2.2.2.2.2.2.2.2.2.2.1.2.1.1,v.2.2.2.2.2.2.2.2.2.2.1.2.1.2.1,v.2.2.2.2.2.2.2.2.2.2.1.2.1.2.2⟩
 fr:=λx=>(((),((),((),((),((),()))))),(((),((),())),(((),((),())),(((),((),())),(x.xs,(x.ys,(((x.oi_lo,x.oi_len,x.oi_cap),((x.os_lo,x.os_len,x.os_cap),())),((x.l,()),(((),()),(((),()),(((x.bi_lo,x.bi_len,x.bi_cap),((x.bs_lo,x.bs_len,x.bs_cap),())),())))))))))))
def Xo(x:XT):Option ZG:=bif decide (x.v<x.xs.length) then bif inR x.i x.l.length then bif decide (x.v<x.xs.length) then some { xs:=x.xs.set x.v (if x.l[x.i.toNat]?.getD 0<x.xs[x.v]?.getD 0 then x.l[x.i.toNat]?.getD 0 else x.xs[x.v]?.getD 0),ys:=x.ys,oi_lo:=x.oi_lo,oi_len:=x.oi_len,oi_cap:=x.oi_cap,os_lo:=x.os_lo,os_len:=x.os_len,os_cap:=x.os_cap,l:=x.l,bi_lo:=x.bi_lo,bi_len:=x.bi_len,bi_cap:=x.bi_cap,bs_lo:=x.bs_lo,bs_len:=x.bs_len,bs_cap:=x.bs_cap } else none else none
else none
theorem Y9(x:XT):JE Xl 42 R0.rA R0.rB (Ke.R x) (Ke.H x) (Zy 0 VF)=Xo x:=by kernel_rfl
def Ua:QB:=mkUnit 0 Ke VF Xo
theorem ta0a:QA R0.rA 0=[]:=by kernel_rfl
theorem tb0a:QA R0.rB R0.rA.nl=[]:=by kernel_rfl
theorem Y5{y:YI}(hy:Rnd R0.rA R0.rB R0.rP 42 y):J2 Try.prog 42 0 y.assign y.body Ua:=Jk mixed (Q7 Q9 Q6 _) rfl ⟨by kernel_rfl,by kernel_rfl⟩ (λ_=>rfl) (λ_=>rfl) (λ_=>ta0a▸Q8.nil) (λl=>tb0a▸Q8.nil) Y9 hy
structure XS where(i:Int)(v:Nat)(xs ys:List (Int))(oi_lo oi_len oi_cap os_lo os_len os_cap:Nat)(l:List (Int))(bi_lo bi_len bi_cap bs_lo bs_len bs_cap:Nat)
def Kb:Pt XS where
 own:=[]
 t:=⟨[(4,.c (.ptr 2 0)),(7,.c (.ptr 5 0)),(8,.c (.ptr 6 0)),(29,.c (.it .i64)),(30,.c (.el 4 0 1 0)),(1000000,.c (.clo 1000000 [])),(1000001,.c (.ptr 9 0)),(2000004,.c (.ptr 2 0)),(2000007,.c (.ptr 5 0)),(2000008,.c (.ptr 6 0))],[.st [.junk,.junk] 1 0,.st [.junk,.junk] 1 0,.st [.junk,.junk] 1 0,.arr (.int .u8) 0,.arr (.int .u8) 0,.st [.slc 3 0 1,.slc 4 0 1] 1 0,.st [.arr (.int .u8)] 1 0,.st [.junk] 1 0,.st [.junk] 1 0,.st [.slc 3 0 1,.slc 4 0 1] 1 0]⟩
 to:=λv=>⟨v.1.2.2.2.1,v.1.2.2.2.2.1,v.2.2.2.2.1,v.2.2.2.2.2.1,v.2.2.2.2.2.2.1.1.1,v.2.2.2.2.2.2.1.1.2.1,v.2.2.2.2.2.2.1.1.2.2,v.2.2.2.2.2.2.1.2.1.1,v.2.2.2.2.2.2.1.2.1.2.1,v.2.2.2.2.2.2.1.2.1.2.2,v.2.2.2.2.2.2.2.1.1,v.2.2.2.2.2.2.2.2.2.2.1.1.1,v.2.2.2.2.2.2.2.2.2.2.1.1.2.1,v.2.2.2.2.2.2.2.2.2.2.1.1.2.2,v.2.2.2.2.2.2.2.2.2.2.1.2.1.1,v.2.2.2.2.2.2.2.2.2.2.1.2.1.2.1,v.2.2.2.2.2.2.2.2.2.2.1.2.1.2.2⟩
 fr:=λx=>(((),((),((),(x.i,(x.v,((),((),((),((),((),())))))))))),(((),((),())),(((),((),())),(((),((),())),(x.xs,(x.ys,(((x.oi_lo,x.oi_len,x.oi_cap),((x.os_lo,x.os_len,x.os_cap),())),((x.l,()),(((),()),(((),()),(((x.bi_lo,x.bi_len,x.bi_cap),((x.bs_lo,x.bs_len,x.bs_cap),())),())))))))))))
structure ZF where(xs ys:List (Int))(oi_lo oi_len oi_cap os_lo os_len os_cap:Nat)(l:List (Int))(bi_lo bi_len bi_cap bs_lo bs_len bs_cap:Nat)
def VE:Pt ZF where
 own:=[]
 t:=⟨[(1000000,.c (.clo 1000000 [])),(1000001,.c (.ptr 9 0)),(2000004,.c (.ptr 2 0)),(2000007,.c (.ptr 5 0)),(2000008,.c (.ptr 6 0))],[.st [.junk,.junk] 1 0,.st [.junk,.junk] 1 0,.st [.junk,.junk] 1 0,.arr (.int .u8) 0,.arr (.int .u8) 0,.st [.slc 3 0 1,.slc 4 0 1] 1 0,.st [.arr (.int .u8)] 1 0,.st [.junk] 1 0,.st [.junk] 1 0,.st [.slc 3 0 1,.slc 4 0 1] 1 0]⟩
 to:=λv=>⟨v.2.2.2.2.1,v.2.2.2.2.2.1,v.2.2.2.2.2.2.1.1.1,v.2.2.2.2.2.2.1.1.2.1,v.2.2.2.2.2.2.1.1.2.2,v.2.2.2.2.2.2.1.2.1.1,v.2.2.2.2.2.2.1.2.1.2.1,v.2.2.2.2.2.2.1.2.1.2.2,v.2.2.2.2.2.2.2.1.1,v.2.2.2.2.2.2.2.2.2.2.1.1.1,v.2.2.2.2.2.2.2.2.2.2.1.1.2.1,v.2.2.2.2.2.2.2.2.2.2.1.1.2.2,v.2.2.2.2.2.2.2.2.2.2.1.2.1.1,v.2.2.2.2.2.2.2.2.2.2.1.2.1.2.1,v.2.2.2.2.2.2.2.2.2.2.1.2.1.2.2⟩
 fr:=λx=>(((),((),((),((),((),()))))),(((),((),())),(((),((),())),(((),((),())),(x.xs,(x.ys,(((x.oi_lo,x.oi_len,x.oi_cap),((x.os_lo,x.os_len,x.os_cap),())),((x.l,()),(((),()),(((),()),(((x.bi_lo,x.bi_len,x.bi_cap),((x.bs_lo,x.bs_len,x.bs_cap),())),())))))))))))
def Xn(x:XS):Option ZF:=bif decide (x.v<x.ys.length) then bif inR x.i x.l.length then bif decide (x.v<x.ys.length) then some { xs:=x.xs,ys:=x.ys.set x.v (if x.l[x.i.toNat]?.getD 0<x.ys[x.v]?.getD 0 then x.l[x.i.toNat]?.getD 0 else x.ys[x.v]?.getD 0),oi_lo:=x.oi_lo,oi_len:=x.oi_len,oi_cap:=x.oi_cap,os_lo:=x.os_lo,os_len:=x.os_len,os_cap:=x.os_cap,l:=x.l,bi_lo:=x.bi_lo,bi_len:=x.bi_len,bi_cap:=x.bi_cap,bs_lo:=x.bs_lo,bs_len:=x.bs_len,bs_cap:=x.bs_cap } else none else none
else none
theorem Y7(x:XS):JE Xl 42 R0.rA R0.rB (Kb.R x) (Kb.H x) (Zy 0 VE)=Xn x:=by kernel_rfl
def UZ:QB:=mkUnit 0 Kb VE Xn
theorem ta0b:QA R0.rA 0=[]:=by kernel_rfl
theorem tb0b:QA R0.rB R0.rA.nl=[]:=by kernel_rfl
theorem Y4{y:YI}(hy:Rnd R0.rA R0.rB R0.rP 42 y):J2 Try.prog 42 0 y.assign y.body UZ:=Jk mixed (Q7 Q9 Q6 _) rfl ⟨by kernel_rfl,by kernel_rfl⟩ (λ_=>rfl) (λ_=>rfl) (λ_=>ta0b▸Q8.nil) (λl=>tb0b▸Q8.nil) Y7 hy
def ub0:QB:=.alt Ua UZ
theorem Qr{y:YI}(hy:Rnd R0.rA R0.rB R0.rP 42 y):J2 Try.prog 42 0 y.assign y.body ub0:=⟨Y5 hy,Y4 hy⟩
def X8:Env:=⟨ty,QJ cl,λ_=>none,some (R0.rP,ub0)⟩
theorem Zb{y:YI}(hy:Rnd R0.rA R0.rB R0.rP 42 y):Qp Try.prog 0 X8 (some y):=JA rfl (by kernel_rfl) (by kernel_rfl) Qr hy
structure QM where(n2 i2:Int)(xs ys:List (Int))(oi_lo oi_len oi_cap os_lo os_len os_cap:Nat)(l:List (Int))(bi_lo bi_len bi_cap bs_lo bs_len bs_cap:Nat)
def J0:Pt QM where
 own:=[]
 t:=⟨[(0,.c (.clo 1000000 [])),(1,.c (.ptr 9 0)),(22,.c (.it .i64)),(23,.c (.it .i64)),(2000004,.c (.ptr 2 0)),(2000007,.c (.ptr 5 0)),(2000008,.c (.ptr 6 0)),(3000000,.c (.fn 0))],[.st [.junk,.junk] 1 0,.st [.junk,.junk] 1 0,.st [.junk,.junk] 1 0,.arr (.int .u8) 0,.arr (.int .u8) 0,.st [.slc 3 0 1,.slc 4 0 1] 1 0,.st [.arr (.int .u8)] 1 0,.st [.junk] 1 0,.st [.junk] 1 0,.st [.slc 3 0 1,.slc 4 0 1] 1 0]⟩
 to:=λv=>⟨v.1.2.2.1,v.1.2.2.2.1,v.2.2.2.2.1,v.2.2.2.2.2.1,v.2.2.2.2.2.2.1.1.1,v.2.2.2.2.2.2.1.1.2.1,v.2.2.2.2.2.2.1.1.2.2,v.2.2.2.2.2.2.1.2.1.1,v.2.2.2.2.2.2.1.2.1.2.1,v.2.2.2.2.2.2.1.2.1.2.2,v.2.2.2.2.2.2.2.1.1,v.2.2.2.2.2.2.2.2.2.2.1.1.1,v.2.2.2.2.2.2.2.2.2.2.1.1.2.1,v.2.2.2.2.2.2.2.2.2.2.1.1.2.2,v.2.2.2.2.2.2.2.2.2.2.1.2.1.1,v.2.2.2.2.2.2.2.2.2.2.1.2.1.2.1,v.2.2.2.2.2.2.2.2.2.2.1.2.1.2.2⟩
 fr:=λx=>(((),((),(x.n2,(x.i2,((),((),((),((),())))))))),(((),((),())),(((),((),())),(((),((),())),(x.xs,(x.ys,(((x.oi_lo,x.oi_len,x.oi_cap),((x.os_lo,x.os_len,x.os_cap),())),((x.l,()),(((),()),(((),()),(((x.bi_lo,x.bi_len,x.bi_cap),((x.bs_lo,x.bs_len,x.bs_cap),())),())))))))))))
structure Qt where(xs ys:List (Int))(oi_lo oi_len oi_cap os_lo os_len os_cap:Nat)(l:List (Int))(bi_lo bi_len bi_cap bs_lo bs_len bs_cap:Nat)
def X4:Pt Qt where
 own:=[]
 t:=⟨[(2000004,.c (.ptr 2 0)),(2000007,.c (.ptr 5 0)),(2000008,.c (.ptr 6 0)),(3000000,.c (.fn 0))],[.st [.junk,.junk] 1 0,.st [.junk,.junk] 1 0,.st [.junk,.junk] 1 0,.arr (.int .u8) 0,.arr (.int .u8) 0,.st [.slc 3 0 1,.slc 4 0 1] 1 0,.st [.arr (.int .u8)] 1 0,.st [.junk] 1 0,.st [.junk] 1 0,.st [.slc 3 0 1,.slc 4 0 1] 1 0]⟩
 to:=λv=>⟨v.2.2.2.2.1,v.2.2.2.2.2.1,v.2.2.2.2.2.2.1.1.1,v.2.2.2.2.2.2.1.1.2.1,v.2.2.2.2.2.2.1.1.2.2,v.2.2.2.2.2.2.1.2.1.1,v.2.2.2.2.2.2.1.2.1.2.1,v.2.2.2.2.2.2.1.2.1.2.2,v.2.2.2.2.2.2.2.1.1,v.2.2.2.2.2.2.2.2.2.2.1.1.1,v.2.2.2.2.2.2.2.2.2.2.1.1.2.1,v.2.2.2.2.2.2.2.2.2.2.1.1.2.2,v.2.2.2.2.2.2.2.2.2.2.1.2.1.1,v.2.2.2.2.2.2.2.2.2.2.1.2.1.2.1,v.2.2.2.2.2.2.2.2.2.2.1.2.1.2.2⟩
 fr:=λx=>(((),((),((),((),())))),(((),((),())),(((),((),())),(((),((),())),(x.xs,(x.ys,(((x.oi_lo,x.oi_len,x.oi_cap),((x.os_lo,x.os_len,x.os_cap),())),((x.l,()),(((),()),(((),()),(((x.bi_lo,x.bi_len,x.bi_cap),((x.bs_lo,x.bs_len,x.bs_cap),())),())))))))))))
def QK(x:QM):Option (QM⊕Qt):=bif decide (x.i2<x.n2) then bif inR x.i2 x.bs_len then Q1 (Xn { i:=IntKind.i64.wrap ((↑x.bi_len:Int)+x.i2),v:=x.bs_lo+x.i2.toNat,xs:=x.xs,ys:=x.ys,oi_lo:=x.oi_lo,oi_len:=x.oi_len,oi_cap:=x.oi_cap,os_lo:=x.os_lo,os_len:=x.os_len,os_cap:=x.os_cap,l:=x.l,bi_lo:=x.bi_lo,bi_len:=x.bi_len,bi_cap:=x.bi_cap,bs_lo:=x.bs_lo,bs_len:=x.bs_len,bs_cap:=x.bs_cap }) λy=>some (Sum.inl { n2:=x.n2,i2:=IntKind.i64.wrap (x.i2+1),xs:=y.xs,ys:=y.ys,oi_lo:=y.oi_lo,oi_len:=y.oi_len,oi_cap:=y.oi_cap,os_lo:=y.os_lo,os_len:=y.os_len,os_cap:=y.os_cap,l:=y.l,bi_lo:=y.bi_lo,bi_len:=y.bi_len,bi_cap:=y.bi_cap,bs_lo:=y.bs_lo,bs_len:=y.bs_len,bs_cap:=y.bs_cap }) else none
else
 some
  (Sum.inr
   {xs:=x.xs,ys:=x.ys,oi_lo:=x.oi_lo,oi_len:=x.oi_len,oi_cap:=x.oi_cap,os_lo:=x.os_lo,os_len:=x.os_len,os_cap:=x.os_cap,l:=x.l,bi_lo:=x.bi_lo,
    bi_len:=x.bi_len,bi_cap:=x.bi_cap,bs_lo:=x.bs_lo,bs_len:=x.bs_len,bs_cap:=x.bs_cap })
theorem JU(x:QM):exec X8 39 (C50.Q2 1) 2 (J0.R x) (J0.H x) (J4 0 J0 (.exit 2) X4)=QK x:=by kernel_rfl
def JY:QB:=J5 0 J0 (.exit 2) X4 QK
theorem XW:QA (C50.Q2 1) 2=[]:=by kernel_rfl
theorem JX{y:YI}(hy:Rnd R0.rA R0.rB R0.rP 42 y):QH Try.prog 39 none 0 (C50.Q2 1) JY (some y):=QQ mixed (Q7 Q9 Q6 _) (by trivial) (λ_=>rfl) (λ_=>rfl) (XW▸Q8.nil) JU (hyk:=Zb hy)
def X9:Env:=⟨ty,QJ cl,JB [(1,JY)],some (R0.rP,ub0)⟩
theorem Zc{y:YI}(hy:Rnd R0.rA R0.rB R0.rP 42 y):Qp Try.prog 0 X9 (some y):=JA rfl (by kernel_rfl) (by kernel_rfl) Qr hy
structure QN where(n i:Int)(xs ys:List (Int))(oi_lo oi_len oi_cap os_lo os_len os_cap:Nat)(l:List (Int))(bi_lo bi_len bi_cap bs_lo bs_len bs_cap:Nat)
def J1:Pt QN where
 own:=[]
 t:=⟨[(0,.c (.clo 1000000 [])),(1,.c (.ptr 9 0)),(7,.c (.it .i64)),(8,.c (.it .i64)),(2000004,.c (.ptr 2 0)),(2000007,.c (.ptr 5 0)),(2000008,.c (.ptr 6 0)),(3000000,.c (.fn 0))],[.st [.junk,.junk] 1 0,.st [.junk,.junk] 1 0,.st [.junk,.junk] 1 0,.arr (.int .u8) 0,.arr (.int .u8) 0,.st [.slc 3 0 1,.slc 4 0 1] 1 0,.st [.arr (.int .u8)] 1 0,.st [.junk] 1 0,.st [.junk] 1 0,.st [.slc 3 0 1,.slc 4 0 1] 1 0]⟩
 to:=λv=>⟨v.1.2.2.1,v.1.2.2.2.1,v.2.2.2.2.1,v.2.2.2.2.2.1,v.2.2.2.2.2.2.1.1.1,v.2.2.2.2.2.2.1.1.2.1,v.2.2.2.2.2.2.1.1.2.2,v.2.2.2.2.2.2.1.2.1.1,v.2.2.2.2.2.2.1.2.1.2.1,v.2.2.2.2.2.2.1.2.1.2.2,v.2.2.2.2.2.2.2.1.1,v.2.2.2.2.2.2.2.2.2.2.1.1.1,v.2.2.2.2.2.2.2.2.2.2.1.1.2.1,v.2.2.2.2.2.2.2.2.2.2.1.1.2.2,v.2.2.2.2.2.2.2.2.2.2.1.2.1.1,v.2.2.2.2.2.2.2.2.2.2.1.2.1.2.1,v.2.2.2.2.2.2.2.2.2.2.1.2.1.2.2⟩
 fr:=λx=>(((),((),(x.n,(x.i,((),((),((),((),())))))))),(((),((),())),(((),((),())),(((),((),())),(x.xs,(x.ys,(((x.oi_lo,x.oi_len,x.oi_cap),((x.os_lo,x.os_len,x.os_cap),())),((x.l,()),(((),()),(((),()),(((x.bi_lo,x.bi_len,x.bi_cap),((x.bs_lo,x.bs_len,x.bs_cap),())),())))))))))))
structure Qu where(xs ys:List (Int))(oi_lo oi_len oi_cap os_lo os_len os_cap:Nat)(l:List (Int))(bi_lo bi_len bi_cap bs_lo bs_len bs_cap:Nat)
def X5:Pt Qu where
 own:=[]
 t:=⟨[(0,.c (.clo 1000000 [])),(1,.c (.ptr 9 0)),(2000004,.c (.ptr 2 0)),(2000007,.c (.ptr 5 0)),(2000008,.c (.ptr 6 0)),(3000000,.c (.fn 0))],[.st [.junk,.junk] 1 0,.st [.junk,.junk] 1 0,.st [.junk,.junk] 1 0,.arr (.int .u8) 0,.arr (.int .u8) 0,.st [.slc 3 0 1,.slc 4 0 1] 1 0,.st [.arr (.int .u8)] 1 0,.st [.junk] 1 0,.st [.junk] 1 0,.st [.slc 3 0 1,.slc 4 0 1] 1 0]⟩
 to:=λv=>⟨v.2.2.2.2.1,v.2.2.2.2.2.1,v.2.2.2.2.2.2.1.1.1,v.2.2.2.2.2.2.1.1.2.1,v.2.2.2.2.2.2.1.1.2.2,v.2.2.2.2.2.2.1.2.1.1,v.2.2.2.2.2.2.1.2.1.2.1,v.2.2.2.2.2.2.1.2.1.2.2,v.2.2.2.2.2.2.2.1.1,v.2.2.2.2.2.2.2.2.2.2.1.1.1,v.2.2.2.2.2.2.2.2.2.2.1.1.2.1,v.2.2.2.2.2.2.2.2.2.2.1.1.2.2,v.2.2.2.2.2.2.2.2.2.2.1.2.1.1,v.2.2.2.2.2.2.2.2.2.2.1.2.1.2.1,v.2.2.2.2.2.2.2.2.2.2.1.2.1.2.2⟩
 fr:=λx=>(((),((),((),((),((),((),())))))),(((),((),())),(((),((),())),(((),((),())),(x.xs,(x.ys,(((x.oi_lo,x.oi_len,x.oi_cap),((x.os_lo,x.os_len,x.os_cap),())),((x.l,()),(((),()),(((),()),(((x.bi_lo,x.bi_len,x.bi_cap),((x.bs_lo,x.bs_len,x.bs_cap),())),())))))))))))
def QL(x:QN):Option (QN⊕Qu):=bif decide (x.i<x.n) then bif inR x.i x.bi_len then Q1 (Xo { i:=x.i,v:=x.bi_lo+x.i.toNat,xs:=x.xs,ys:=x.ys,oi_lo:=x.oi_lo,oi_len:=x.oi_len,oi_cap:=x.oi_cap,os_lo:=x.os_lo,os_len:=x.os_len,os_cap:=x.os_cap,l:=x.l,bi_lo:=x.bi_lo,bi_len:=x.bi_len,bi_cap:=x.bi_cap,bs_lo:=x.bs_lo,bs_len:=x.bs_len,bs_cap:=x.bs_cap }) λy=>some (Sum.inl { n:=x.n,i:=IntKind.i64.wrap (x.i+1),xs:=y.xs,ys:=y.ys,oi_lo:=y.oi_lo,oi_len:=y.oi_len,oi_cap:=y.oi_cap,os_lo:=y.os_lo,os_len:=y.os_len,os_cap:=y.os_cap,l:=y.l,bi_lo:=y.bi_lo,bi_len:=y.bi_len,bi_cap:=y.bi_cap,bs_lo:=y.bs_lo,bs_len:=y.bs_len,bs_cap:=y.bs_cap }) else none
else
 some
  (Sum.inr
   {xs:=x.xs,ys:=x.ys,oi_lo:=x.oi_lo,oi_len:=x.oi_len,oi_cap:=x.oi_cap,os_lo:=x.os_lo,os_len:=x.os_len,os_cap:=x.os_cap,l:=x.l,bi_lo:=x.bi_lo,
    bi_len:=x.bi_len,bi_cap:=x.bi_cap,bs_lo:=x.bs_lo,bs_len:=x.bs_len,bs_cap:=x.bs_cap })
theorem JW(x:QN):exec X9 39 (C50.Q2 0) 1 (J1.R x) (J1.H x) (J4 0 J1 (.exit 0) X5)=QL x:=by kernel_rfl
def X6:QB:=J5 0 J1 (.exit 0) X5 QL
theorem XX:QA (C50.Q2 0) 1=[]:=by kernel_rfl
theorem JZ{y:YI}(hy:Rnd R0.rA R0.rB R0.rP 42 y):QH Try.prog 39 none 0 (C50.Q2 0) X6 (some y):=QQ mixed (Q7 Q9 Q6 _) (by trivial) (λ_=>rfl) (λ_=>rfl) (XX▸Q8.nil) JW (hyk:=Zc hy)
def XA:Env:=⟨ty,QJ cl,JB [(0,X6),(1,JY)],some (R0.rP,ub0)⟩
theorem Zd{y:YI}(hy:Rnd R0.rA R0.rB R0.rP 42 y):Qp Try.prog 0 XA (some y):=JA rfl (by kernel_rfl) (by kernel_rfl) Qr hy
structure p0X where(xs ys:List (Int))(oi_lo oi_len oi_cap os_lo os_len os_cap:Nat)(l:List (Int))(bi_lo bi_len bi_cap bs_lo bs_len bs_cap:Nat)
def p0:Pt p0X where
 own:=[]
 t:=⟨[(4,.c (.ptr 2 0)),(7,.c (.ptr 5 0)),(8,.c (.ptr 6 0)),(28,.c (.clo 50 [⟨9,0,0⟩]))],[.st [.junk,.junk] 1 0,.st [.junk,.junk] 1 0,.st [.junk,.junk] 1 0,.arr (.int .u8) 0,.arr (.int .u8) 0,.st [.slc 3 0 1,.slc 4 0 1] 1 0,.st [.arr (.int .u8)] 1 0,.st [.junk] 1 0,.st [.junk] 1 0,.st [.slc 3 0 1,.slc 4 0 1] 1 0]⟩
 to:=λv=>⟨v.2.2.2.2.1,v.2.2.2.2.2.1,v.2.2.2.2.2.2.1.1.1,v.2.2.2.2.2.2.1.1.2.1,v.2.2.2.2.2.2.1.1.2.2,v.2.2.2.2.2.2.1.2.1.1,v.2.2.2.2.2.2.1.2.1.2.1,v.2.2.2.2.2.2.1.2.1.2.2,v.2.2.2.2.2.2.2.1.1,v.2.2.2.2.2.2.2.2.2.2.1.1.1,v.2.2.2.2.2.2.2.2.2.2.1.1.2.1,v.2.2.2.2.2.2.2.2.2.2.1.1.2.2,v.2.2.2.2.2.2.2.2.2.2.1.2.1.1,v.2.2.2.2.2.2.2.2.2.2.1.2.1.2.1,v.2.2.2.2.2.2.2.2.2.2.1.2.1.2.2⟩
 fr:=λx=>(((),((),((),((),())))),(((),((),())),(((),((),())),(((),((),())),(x.xs,(x.ys,(((x.oi_lo,x.oi_len,x.oi_cap),((x.os_lo,x.os_len,x.os_cap),())),((x.l,()),(((),()),(((),()),(((x.bi_lo,x.bi_len,x.bi_cap),((x.bs_lo,x.bs_len,x.bs_cap),())),())))))))))))
structure q0X where(xs ys:List (Int))(oi_lo oi_len oi_cap os_lo os_len os_cap:Nat)(l:List (Int))(bi_lo bi_len bi_cap bs_lo bs_len bs_cap:Nat)
def q0:Pt q0X where
 own:=[]
 t:=⟨[(4,.c (.ptr 2 0)),(7,.c (.ptr 5 0)),(8,.c (.ptr 6 0))],[.st [.junk,.junk] 1 0,.st [.junk,.junk] 1 0,.st [.junk,.junk] 1 0,.arr (.int .u8) 0,.arr (.int .u8) 0,.st [.slc 3 0 1,.slc 4 0 1] 1 0,.st [.arr (.int .u8)] 1 0,.st [.junk] 1 0,.st [.junk] 1 0,.st [.slc 3 0 1,.slc 4 0 1] 1 0]⟩
 to:=λv=>⟨v.2.2.2.2.1,v.2.2.2.2.2.1,v.2.2.2.2.2.2.1.1.1,v.2.2.2.2.2.2.1.1.2.1,v.2.2.2.2.2.2.1.1.2.2,v.2.2.2.2.2.2.1.2.1.1,v.2.2.2.2.2.2.1.2.1.2.1,v.2.2.2.2.2.2.1.2.1.2.2,v.2.2.2.2.2.2.2.1.1,v.2.2.2.2.2.2.2.2.2.2.1.1.1,v.2.2.2.2.2.2.2.2.2.2.1.1.2.1,v.2.2.2.2.2.2.2.2.2.2.1.1.2.2,v.2.2.2.2.2.2.2.2.2.2.1.2.1.1,v.2.2.2.2.2.2.2.2.2.2.1.2.1.2.1,v.2.2.2.2.2.2.2.2.2.2.1.2.1.2.2⟩
 fr:=λx=>(((),((),((),()))),(((),((),())),(((),((),())),(((),((),())),(x.xs,(x.ys,(((x.oi_lo,x.oi_len,x.oi_cap),((x.os_lo,x.os_len,x.os_cap),())),((x.l,()),(((),()),(((),()),(((x.bi_lo,x.bi_len,x.bi_cap),((x.bs_lo,x.bs_len,x.bs_cap),())),())))))))))))
def s0(x:p0X):Option q0X:=Q1 (iter QL ⟨(↑x.bi_len:Int),0,x.xs,x.ys,x.oi_lo,x.oi_len,x.oi_cap,x.os_lo,x.os_len,x.os_cap,x.l,x.bi_lo,x.bi_len,x.bi_cap,x.bs_lo,x.bs_len,x.bs_cap⟩) λy=>Q1 (iter QK ⟨(↑y.bs_len:Int),0,y.xs,y.ys,y.oi_lo,y.oi_len,y.oi_cap,y.os_lo,y.os_len,y.os_cap,y.l,y.bi_lo,y.bi_len,y.bi_cap,y.bs_lo,y.bs_len,y.bs_cap⟩) λy=>some ⟨y.xs,y.ys,y.oi_lo,y.oi_len,y.oi_cap,y.os_lo,y.os_len,y.os_cap,y.l,y.bi_lo,y.bi_len,y.bi_cap,y.bs_lo,y.bs_len,y.bs_cap⟩
theorem Qd(x:p0X):ZA XA 39 C50 50 R0.rF (p0.R x) (p0.H x) (Xz (Zy 0 q0))=s0 x:=by kernel_rfl
def l0:QB:=mkUnit 0 p0 q0 s0
theorem ti0:QA C50 0=[(0,C50.Q2 0),(1,C50.Q2 1)]:=by kernel_rfl
theorem Qe:Z3 Try.prog 42 0 R0.rF R0.rP R0.rA R0.rB l0:=Zh mixed (Q7 Q9 Q6 _) (λhy=>Zd hy) s50 (by kernel_rfl) (λhy=>ti0▸(Q8.cons rfl (JZ hy) (Q8.cons rfl (JX hy) Q8.nil))) (λ_=>rfl) (λ_=>rfl) Qd
def E0:Env:=⟨ty,QJ cl,JB [(0,l0)],none⟩
theorem ur:Kn C13 0=[(0,R0)]:=by kernel_rfl
def m(x:gX):Option fY:=Q1 (M33.m ⟨x.ai,x.as_,x.bi,x.bs⟩) λy=>bif y !=0 then none else Q1 (M16.m ⟨x.ai,x.as_,x.bi,x.bs⟩) λy=>bif !y then none else Q1 (M34.m ⟨x.ai,x.as_⟩) λy=>Q1 (M35.m ⟨x.bi,x.bs⟩) λy_1=>Q1 (M36o.m ⟨y.1,y.2.1,y.2.2.1,y.2.2.2.1,y.2.2.2.2.1,y.2.2.2.2.2.1,y.2.2.2.2.2.2.1,y.2.2.2.2.2.2.2⟩) λy_2=>Q1 (s0 ⟨y_2.1,y_2.2.1,y.1,y.2.1,y.2.2.1,y.2.2.2.1,y.2.2.2.2.1,y.2.2.2.2.2.1,y_1,y_2.2.2.1,y_2.2.2.2.1,y_2.2.2.2.2.1,y_2.2.2.2.2.2.1,y_2.2.2.2.2.2.2.1,y_2.2.2.2.2.2.2.2⟩) λy=>some (y.oi_lo,y.oi_len,y.oi_cap,y.os_lo,y.os_len,y.os_cap,0,y.xs,y.ys)
theorem QW(x:gX):exec E0 42 C13 0 (QX 0 (g.A x)) (g.H x) (finish 0 ty [.cell 4 29,.tmp 5] f)=m x:=by kernel_rfl
theorem tl:QA C13 0=[]:=by kernel_rfl
theorem known:QV Try.prog 13 g f m:=
 QD mixed (Q7 Q9 Q6 _) s13 rfl rfl tl Q8.nil (λ_ _=>⟨rfl,rfl⟩) (λ_ _=>⟨rfl,rfl⟩) QW (hg:=Jx.of rfl (ur▸(Zs.cons rfl (by kernel_rfl) Qe Zs.nil)))
end M13q
namespace M19q
structure gX where(i s:List (Int))(w:Int)
def g:Sg gX:=⟨[.agg [.arr (.int .u8),.arr (.int .u8)],.c (.it .u8)],[],λa b=>⟨a.1.1,a.1.2.1,a.2.1⟩,λx=>((x.i,(x.s,())),(x.w,())),λx=>()⟩
abbrev fY:=Nat×Nat×Nat×Nat×Nat×Nat×Int×List (Int)×List (Int)
def f:Ft fY:=⟨some [4,5,0,1,2,3,6,7],.tup [.inr [.slc 0 0 1,.slc 1 0 1],.inl (.it .i64)],[.arr (.int .u8) 0,.arr (.int .u8) 0],λa b=>(a.1.1.1,a.1.1.2.1,a.1.1.2.2,a.1.2.1.1,a.1.2.1.2.1,a.1.2.1.2.2,a.2.1,b.1,b.2.1),λy=>(((y.1,y.2.1,y.2.2.1),((y.2.2.2.1,y.2.2.2.2.1,y.2.2.2.2.2.1),())),(y.2.2.2.2.2.2.1,())),λy=>(y.2.2.2.2.2.2.2.1,(y.2.2.2.2.2.2.2.2,()))⟩
def cl:List (FuncId×Con):=[(29,M29.con),(35,M35.con),(40,M40.con),(34,M34.con),(36,M36o.con)]
theorem Q6:QT Try.prog cl:=⟨M29.Q5,M35.Q5,M40.Q5,M34.Q5,M36o.Q5,trivial⟩
def R0:CC:=C19.Zf 0
def Xl:Env:=⟨ty,QJ cl,λ_=>none,none⟩
structure XT where(v:Nat)(w last:Int)(xs ys:List (Int))(oi_lo oi_len oi_cap os_lo os_len os_cap bi_lo bi_len bi_cap bs_lo bs_len bs_cap:Nat)
def Ke:Pt XT where
 own:=[]
 t:=⟨[(3,.c (.ptr 1 0)),(4,.c (.ptr 2 0)),(7,.c (.ptr 3 0)),(9,.c (.ptr 6 0)),(41,.c (.el 4 0 1 0)),(1000000,.c (.clo 1000000 [])),(1000001,.c (.ptr 7 0)),(2000003,.c (.ptr 1 0)),(2000004,.c (.ptr 2 0)),(2000007,.c (.ptr 3 0)),(2000009,.c (.ptr 6 0))],[.st [.junk,.junk] 1 0,.st [.it .u8] 1 0,.st [.junk,.junk] 1 0,.st [.it .u8] 1 0,.arr (.int .u8) 0,.arr (.int .u8) 0,.st [.slc 4 0 1,.slc 5 0 1] 1 0,.st [.slc 4 0 1,.slc 5 0 1] 1 0]⟩
 to:=λv=>⟨v.1.2.2.2.2.1,v.2.2.1.1,v.2.2.2.2.1.1,v.2.2.2.2.2.1,v.2.2.2.2.2.2.1,v.2.2.2.2.2.2.2.1.1.1,v.2.2.2.2.2.2.2.1.1.2.1,v.2.2.2.2.2.2.2.1.1.2.2,v.2.2.2.2.2.2.2.1.2.1.1,v.2.2.2.2.2.2.2.1.2.1.2.1,v.2.2.2.2.2.2.2.1.2.1.2.2,v.2.2.2.2.2.2.2.2.1.1.1,v.2.2.2.2.2.2.2.2.1.1.2.1,v.2.2.2.2.2.2.2.2.1.1.2.2,v.2.2.2.2.2.2.2.2.1.2.1.1,v.2.2.2.2.2.2.2.2.1.2.1.2.1,v.2.2.2.2.2.2.2.2.1.2.1.2.2⟩
 fr:=λx=>(((),((),((),((),(x.v,((),((),((),((),((),((),()))))))))))),(((),((),())),((x.w,()),(((),((),())),((x.last,()),(x.xs,(x.ys,(((x.oi_lo,x.oi_len,x.oi_cap),((x.os_lo,x.os_len,x.os_cap),())),(((x.bi_lo,x.bi_len,x.bi_cap),((x.bs_lo,x.bs_len,x.bs_cap),())),())))))))))
structure ZG where(w last:Int)(xs ys:List (Int))(oi_lo oi_len oi_cap os_lo os_len os_cap bi_lo bi_len bi_cap bs_lo bs_len bs_cap:Nat)
def VF:Pt ZG where
 own:=[]
 t:=⟨[(1000000,.c (.clo 1000000 [])),(1000001,.c (.ptr 7 0)),(2000003,.c (.ptr 1 0)),(2000004,.c (.ptr 2 0)),(2000007,.c (.ptr 3 0)),(2000009,.c (.ptr 6 0))],[.st [.junk,.junk] 1 0,.st [.it .u8] 1 0,.st [.junk,.junk] 1 0,.st [.it .u8] 1 0,.arr (.int .u8) 0,.arr (.int .u8) 0,.st [.slc 4 0 1,.slc 5 0 1] 1 0,.st [.slc 4 0 1,.slc 5 0 1] 1 0]⟩
 to:=λv=>⟨v.2.2.1.1,v.2.2.2.2.1.1,v.2.2.2.2.2.1,v.2.2.2.2.2.2.1,v.2.2.2.2.2.2.2.1.1.1,v.2.2.2.2.2.2.2.1.1.2.1,v.2.2.2.2.2.2.2.1.1.2.2,v.2.2.2.2.2.2.2.1.2.1.1,v.2.2.2.2.2.2.2.1.2.1.2.1,v.2.2.2.2.2.2.2.1.2.1.2.2,v.2.2.2.2.2.2.2.2.1.1.1,v.2.2.2.2.2.2.2.2.1.1.2.1,v.2.2.2.2.2.2.2.2.1.1.2.2,v.2.2.2.2.2.2.2.2.1.2.1.1,v.2.2.2.2.2.2.2.2.1.2.1.2.1,v.2.2.2.2.2.2.2.2.1.2.1.2.2⟩
 fr:=λx=>(((),((),((),((),((),((),())))))),(((),((),())),((x.w,()),(((),((),())),((x.last,()),(x.xs,(x.ys,(((x.oi_lo,x.oi_len,x.oi_cap),((x.os_lo,x.os_len,x.os_cap),())),(((x.bi_lo,x.bi_len,x.bi_cap),((x.bs_lo,x.bs_len,x.bs_cap),())),())))))))))
def Xo(x:XT):Option ZG:=bif decide (x.v<x.xs.length) then bif x.xs[x.v]?.getD 0==2 then bif decide (x.v<x.xs.length) then some { w:=x.w,last:=x.last,xs:=x.xs.set x.v x.last,ys:=x.ys,oi_lo:=x.oi_lo,oi_len:=x.oi_len,oi_cap:=x.oi_cap,os_lo:=x.os_lo,os_len:=x.os_len,os_cap:=x.os_cap,bi_lo:=x.bi_lo,bi_len:=x.bi_len,bi_cap:=x.bi_cap,bs_lo:=x.bs_lo,bs_len:=x.bs_len,bs_cap:=x.bs_cap } else none else bif x.w==2 then bif decide (x.v<x.xs.length) then some { w:=x.w,last:=x.xs[x.v]?.getD 0,xs:=x.xs,ys:=x.ys,oi_lo:=x.oi_lo,oi_len:=x.oi_len,oi_cap:=x.oi_cap,os_lo:=x.os_lo,os_len:=x.os_len,os_cap:=x.os_cap,bi_lo:=x.bi_lo,bi_len:=x.bi_len,bi_cap:=x.bi_cap,bs_lo:=x.bs_lo,bs_len:=x.bs_len,bs_cap:=x.bs_cap } else none else some { w:=x.w,last:=x.last,xs:=x.xs,ys:=x.ys,oi_lo:=x.oi_lo,oi_len:=x.oi_len,oi_cap:=x.oi_cap,os_lo:=x.os_lo,os_len:=x.os_len,os_cap:=x.os_cap,bi_lo:=x.bi_lo,bi_len:=x.bi_len,bi_cap:=x.bi_cap,bs_lo:=x.bs_lo,bs_len:=x.bs_len,bs_cap:=x.bs_cap }
else none
theorem Y9(x:XT):JE Xl 57 R0.rA R0.rB (Ke.R x) (Ke.H x) (Zy 0 VF)=Xo x:=by kernel_rfl
def Ua:QB:=mkUnit 0 Ke VF Xo
theorem ta0a:QA R0.rA 0=[]:=by kernel_rfl
theorem tb0a:QA R0.rB R0.rA.nl=[]:=by kernel_rfl
theorem Y5{y:YI}(hy:Rnd R0.rA R0.rB R0.rP 57 y):J2 Try.prog 57 0 y.assign y.body Ua:=Jk mixed (Q7 Q9 Q6 _) rfl ⟨by kernel_rfl,by kernel_rfl⟩ (λ_=>rfl) (λ_=>rfl) (λ_=>ta0a▸Q8.nil) (λl=>tb0a▸Q8.nil) Y9 hy
structure XS where(v:Nat)(w last:Int)(xs ys:List (Int))(oi_lo oi_len oi_cap os_lo os_len os_cap bi_lo bi_len bi_cap bs_lo bs_len bs_cap:Nat)
def Kb:Pt XS where
 own:=[]
 t:=⟨[(3,.c (.ptr 1 0)),(4,.c (.ptr 2 0)),(7,.c (.ptr 3 0)),(9,.c (.ptr 6 0)),(41,.c (.el 5 0 1 0)),(1000000,.c (.clo 1000000 [])),(1000001,.c (.ptr 7 0)),(2000003,.c (.ptr 1 0)),(2000004,.c (.ptr 2 0)),(2000007,.c (.ptr 3 0)),(2000009,.c (.ptr 6 0))],[.st [.junk,.junk] 1 0,.st [.it .u8] 1 0,.st [.junk,.junk] 1 0,.st [.it .u8] 1 0,.arr (.int .u8) 0,.arr (.int .u8) 0,.st [.slc 4 0 1,.slc 5 0 1] 1 0,.st [.slc 4 0 1,.slc 5 0 1] 1 0]⟩
 to:=λv=>⟨v.1.2.2.2.2.1,v.2.2.1.1,v.2.2.2.2.1.1,v.2.2.2.2.2.1,v.2.2.2.2.2.2.1,v.2.2.2.2.2.2.2.1.1.1,v.2.2.2.2.2.2.2.1.1.2.1,v.2.2.2.2.2.2.2.1.1.2.2,v.2.2.2.2.2.2.2.1.2.1.1,v.2.2.2.2.2.2.2.1.2.1.2.1,v.2.2.2.2.2.2.2.1.2.1.2.2,v.2.2.2.2.2.2.2.2.1.1.1,v.2.2.2.2.2.2.2.2.1.1.2.1,v.2.2.2.2.2.2.2.2.1.1.2.2,v.2.2.2.2.2.2.2.2.1.2.1.1,v.2.2.2.2.2.2.2.2.1.2.1.2.1,v.2.2.2.2.2.2.2.2.1.2.1.2.2⟩
 fr:=λx=>(((),((),((),((),(x.v,((),((),((),((),((),((),()))))))))))),(((),((),())),((x.w,()),(((),((),())),((x.last,()),(x.xs,(x.ys,(((x.oi_lo,x.oi_len,x.oi_cap),((x.os_lo,x.os_len,x.os_cap),())),(((x.bi_lo,x.bi_len,x.bi_cap),((x.bs_lo,x.bs_len,x.bs_cap),())),())))))))))
structure ZF where(w last:Int)(xs ys:List (Int))(oi_lo oi_len oi_cap os_lo os_len os_cap bi_lo bi_len bi_cap bs_lo bs_len bs_cap:Nat)
def VE:Pt ZF where
 own:=[]
 t:=⟨[(1000000,.c (.clo 1000000 [])),(1000001,.c (.ptr 7 0)),(2000003,.c (.ptr 1 0)),(2000004,.c (.ptr 2 0)),(2000007,.c (.ptr 3 0)),(2000009,.c (.ptr 6 0))],[.st [.junk,.junk] 1 0,.st [.it .u8] 1 0,.st [.junk,.junk] 1 0,.st [.it .u8] 1 0,.arr (.int .u8) 0,.arr (.int .u8) 0,.st [.slc 4 0 1,.slc 5 0 1] 1 0,.st [.slc 4 0 1,.slc 5 0 1] 1 0]⟩
 to:=λv=>⟨v.2.2.1.1,v.2.2.2.2.1.1,v.2.2.2.2.2.1,v.2.2.2.2.2.2.1,v.2.2.2.2.2.2.2.1.1.1,v.2.2.2.2.2.2.2.1.1.2.1,v.2.2.2.2.2.2.2.1.1.2.2,v.2.2.2.2.2.2.2.1.2.1.1,v.2.2.2.2.2.2.2.1.2.1.2.1,v.2.2.2.2.2.2.2.1.2.1.2.2,v.2.2.2.2.2.2.2.2.1.1.1,v.2.2.2.2.2.2.2.2.1.1.2.1,v.2.2.2.2.2.2.2.2.1.1.2.2,v.2.2.2.2.2.2.2.2.1.2.1.1,v.2.2.2.2.2.2.2.2.1.2.1.2.1,v.2.2.2.2.2.2.2.2.1.2.1.2.2⟩
 fr:=λx=>(((),((),((),((),((),((),())))))),(((),((),())),((x.w,()),(((),((),())),((x.last,()),(x.xs,(x.ys,(((x.oi_lo,x.oi_len,x.oi_cap),((x.os_lo,x.os_len,x.os_cap),())),(((x.bi_lo,x.bi_len,x.bi_cap),((x.bs_lo,x.bs_len,x.bs_cap),())),())))))))))
def Xn(x:XS):Option ZF:=bif decide (x.v<x.ys.length) then bif x.ys[x.v]?.getD 0==2 then bif decide (x.v<x.ys.length) then some { w:=x.w,last:=x.last,xs:=x.xs,ys:=x.ys.set x.v x.last,oi_lo:=x.oi_lo,oi_len:=x.oi_len,oi_cap:=x.oi_cap,os_lo:=x.os_lo,os_len:=x.os_len,os_cap:=x.os_cap,bi_lo:=x.bi_lo,bi_len:=x.bi_len,bi_cap:=x.bi_cap,bs_lo:=x.bs_lo,bs_len:=x.bs_len,bs_cap:=x.bs_cap } else none else bif x.w==2 then bif decide (x.v<x.ys.length) then some { w:=x.w,last:=x.ys[x.v]?.getD 0,xs:=x.xs,ys:=x.ys,oi_lo:=x.oi_lo,oi_len:=x.oi_len,oi_cap:=x.oi_cap,os_lo:=x.os_lo,os_len:=x.os_len,os_cap:=x.os_cap,bi_lo:=x.bi_lo,bi_len:=x.bi_len,bi_cap:=x.bi_cap,bs_lo:=x.bs_lo,bs_len:=x.bs_len,bs_cap:=x.bs_cap } else none else some { w:=x.w,last:=x.last,xs:=x.xs,ys:=x.ys,oi_lo:=x.oi_lo,oi_len:=x.oi_len,oi_cap:=x.oi_cap,os_lo:=x.os_lo,os_len:=x.os_len,os_cap:=x.os_cap,bi_lo:=x.bi_lo,bi_len:=x.bi_len,bi_cap:=x.bi_cap,bs_lo:=x.bs_lo,bs_len:=x.bs_len,bs_cap:=x.bs_cap }
else none
theorem Y7(x:XS):JE Xl 57 R0.rA R0.rB (Kb.R x) (Kb.H x) (Zy 0 VE)=Xn x:=by kernel_rfl
def UZ:QB:=mkUnit 0 Kb VE Xn
theorem ta0b:QA R0.rA 0=[]:=by kernel_rfl
theorem tb0b:QA R0.rB R0.rA.nl=[]:=by kernel_rfl
theorem Y4{y:YI}(hy:Rnd R0.rA R0.rB R0.rP 57 y):J2 Try.prog 57 0 y.assign y.body UZ:=Jk mixed (Q7 Q9 Q6 _) rfl ⟨by kernel_rfl,by kernel_rfl⟩ (λ_=>rfl) (λ_=>rfl) (λ_=>ta0b▸Q8.nil) (λl=>tb0b▸Q8.nil) Y7 hy
def ub0:QB:=.alt Ua UZ
theorem Qr{y:YI}(hy:Rnd R0.rA R0.rB R0.rP 57 y):J2 Try.prog 57 0 y.assign y.body ub0:=⟨Y5 hy,Y4 hy⟩
def X8:Env:=⟨ty,QJ cl,λ_=>none,some (R0.rP,ub0)⟩
theorem Zb{y:YI}(hy:Rnd R0.rA R0.rB R0.rP 57 y):Qp Try.prog 0 X8 (some y):=JA rfl (by kernel_rfl) (by kernel_rfl) Qr hy
structure QM where(n2 i2 w last:Int)(xs ys:List (Int))(oi_lo oi_len oi_cap os_lo os_len os_cap bi_lo bi_len bi_cap bs_lo bs_len bs_cap:Nat)
def J0:Pt QM where
 own:=[]
 t:=⟨[(0,.c (.clo 1000000 [])),(1,.c (.ptr 7 0)),(22,.c (.it .i64)),(23,.c (.it .i64)),(2000003,.c (.ptr 1 0)),(2000004,.c (.ptr 2 0)),(2000007,.c (.ptr 3 0)),(2000009,.c (.ptr 6 0)),(3000000,.c (.fn 0))],[.st [.junk,.junk] 1 0,.st [.it .u8] 1 0,.st [.junk,.junk] 1 0,.st [.it .u8] 1 0,.arr (.int .u8) 0,.arr (.int .u8) 0,.st [.slc 4 0 1,.slc 5 0 1] 1 0,.st [.slc 4 0 1,.slc 5 0 1] 1 0]⟩
 to:=λv=>⟨v.1.2.2.1,v.1.2.2.2.1,v.2.2.1.1,v.2.2.2.2.1.1,v.2.2.2.2.2.1,v.2.2.2.2.2.2.1,v.2.2.2.2.2.2.2.1.1.1,v.2.2.2.2.2.2.2.1.1.2.1,v.2.2.2.2.2.2.2.1.1.2.2,v.2.2.2.2.2.2.2.1.2.1.1,v.2.2.2.2.2.2.2.1.2.1.2.1,v.2.2.2.2.2.2.2.1.2.1.2.2,v.2.2.2.2.2.2.2.2.1.1.1,v.2.2.2.2.2.2.2.2.1.1.2.1,v.2.2.2.2.2.2.2.2.1.1.2.2,v.2.2.2.2.2.2.2.2.1.2.1.1,v.2.2.2.2.2.2.2.2.1.2.1.2.1,v.2.2.2.2.2.2.2.2.1.2.1.2.2⟩
 fr:=λx=>(((),((),(x.n2,(x.i2,((),((),((),((),((),()))))))))),(((),((),())),((x.w,()),(((),((),())),((x.last,()),(x.xs,(x.ys,(((x.oi_lo,x.oi_len,x.oi_cap),((x.os_lo,x.os_len,x.os_cap),())),(((x.bi_lo,x.bi_len,x.bi_cap),((x.bs_lo,x.bs_len,x.bs_cap),())),())))))))))
structure Qt where(w last:Int)(xs ys:List (Int))(oi_lo oi_len oi_cap os_lo os_len os_cap bi_lo bi_len bi_cap bs_lo bs_len bs_cap:Nat)
def X4:Pt Qt where
 own:=[]
 t:=⟨[(2000003,.c (.ptr 1 0)),(2000004,.c (.ptr 2 0)),(2000007,.c (.ptr 3 0)),(2000009,.c (.ptr 6 0)),(3000000,.c (.fn 0))],[.st [.junk,.junk] 1 0,.st [.it .u8] 1 0,.st [.junk,.junk] 1 0,.st [.it .u8] 1 0,.arr (.int .u8) 0,.arr (.int .u8) 0,.st [.slc 4 0 1,.slc 5 0 1] 1 0,.st [.slc 4 0 1,.slc 5 0 1] 1 0]⟩
 to:=λv=>⟨v.2.2.1.1,v.2.2.2.2.1.1,v.2.2.2.2.2.1,v.2.2.2.2.2.2.1,v.2.2.2.2.2.2.2.1.1.1,v.2.2.2.2.2.2.2.1.1.2.1,v.2.2.2.2.2.2.2.1.1.2.2,v.2.2.2.2.2.2.2.1.2.1.1,v.2.2.2.2.2.2.2.1.2.1.2.1,v.2.2.2.2.2.2.2.1.2.1.2.2,v.2.2.2.2.2.2.2.2.1.1.1,v.2.2.2.2.2.2.2.2.1.1.2.1,v.2.2.2.2.2.2.2.2.1.1.2.2,v.2.2.2.2.2.2.2.2.1.2.1.1,v.2.2.2.2.2.2.2.2.1.2.1.2.1,v.2.2.2.2.2.2.2.2.1.2.1.2.2⟩
 fr:=λx=>(((),((),((),((),((),()))))),(((),((),())),((x.w,()),(((),((),())),((x.last,()),(x.xs,(x.ys,(((x.oi_lo,x.oi_len,x.oi_cap),((x.os_lo,x.os_len,x.os_cap),())),(((x.bi_lo,x.bi_len,x.bi_cap),((x.bs_lo,x.bs_len,x.bs_cap),())),())))))))))
def QK(x:QM):Option (QM⊕Qt):=bif decide (x.i2<x.n2) then bif inR x.i2 x.bs_len then Q1 (Xn { v:=x.bs_lo+x.i2.toNat,w:=x.w,last:=x.last,xs:=x.xs,ys:=x.ys,oi_lo:=x.oi_lo,oi_len:=x.oi_len,oi_cap:=x.oi_cap,os_lo:=x.os_lo,os_len:=x.os_len,os_cap:=x.os_cap,bi_lo:=x.bi_lo,bi_len:=x.bi_len,bi_cap:=x.bi_cap,bs_lo:=x.bs_lo,bs_len:=x.bs_len,bs_cap:=x.bs_cap }) λy=>some (Sum.inl { n2:=x.n2,i2:=IntKind.i64.wrap (x.i2+1),w:=y.w,last:=y.last,xs:=y.xs,ys:=y.ys,oi_lo:=y.oi_lo,oi_len:=y.oi_len,oi_cap:=y.oi_cap,os_lo:=y.os_lo,os_len:=y.os_len,os_cap:=y.os_cap,bi_lo:=y.bi_lo,bi_len:=y.bi_len,bi_cap:=y.bi_cap,bs_lo:=y.bs_lo,bs_len:=y.bs_len,bs_cap:=y.bs_cap }) else none
else
 some
  (Sum.inr
   {w:=x.w,last:=x.last,xs:=x.xs,ys:=x.ys,oi_lo:=x.oi_lo,oi_len:=x.oi_len,oi_cap:=x.oi_cap,os_lo:=x.os_lo,os_len:=x.os_len,os_cap:=x.os_cap,
    bi_lo:=x.bi_lo,bi_len:=x.bi_len,bi_cap:=x.bi_cap,bs_lo:=x.bs_lo,bs_len:=x.bs_len,bs_cap:=x.bs_cap })
theorem JU(x:QM):exec X8 39 (C50.Q2 1) 2 (J0.R x) (J0.H x) (J4 0 J0 (.exit 2) X4)=QK x:=by kernel_rfl
def JY:QB:=J5 0 J0 (.exit 2) X4 QK
theorem XW:QA (C50.Q2 1) 2=[]:=by kernel_rfl
theorem JX{y:YI}(hy:Rnd R0.rA R0.rB R0.rP 57 y):QH Try.prog 39 none 0 (C50.Q2 1) JY (some y):=QQ mixed (Q7 Q9 Q6 _) (by trivial) (λ_=>rfl) (λ_=>rfl) (XW▸Q8.nil) JU (hyk:=Zb hy)
def X9:Env:=⟨ty,QJ cl,JB [(1,JY)],some (R0.rP,ub0)⟩
theorem Zc{y:YI}(hy:Rnd R0.rA R0.rB R0.rP 57 y):Qp Try.prog 0 X9 (some y):=JA rfl (by kernel_rfl) (by kernel_rfl) Qr hy
structure QN where(n i w last:Int)(xs ys:List (Int))(oi_lo oi_len oi_cap os_lo os_len os_cap bi_lo bi_len bi_cap bs_lo bs_len bs_cap:Nat)
def J1:Pt QN where
 own:=[]
 t:=⟨[(0,.c (.clo 1000000 [])),(1,.c (.ptr 7 0)),(7,.c (.it .i64)),(8,.c (.it .i64)),(2000003,.c (.ptr 1 0)),(2000004,.c (.ptr 2 0)),(2000007,.c (.ptr 3 0)),(2000009,.c (.ptr 6 0)),(3000000,.c (.fn 0))],[.st [.junk,.junk] 1 0,.st [.it .u8] 1 0,.st [.junk,.junk] 1 0,.st [.it .u8] 1 0,.arr (.int .u8) 0,.arr (.int .u8) 0,.st [.slc 4 0 1,.slc 5 0 1] 1 0,.st [.slc 4 0 1,.slc 5 0 1] 1 0]⟩
 to:=λv=>⟨v.1.2.2.1,v.1.2.2.2.1,v.2.2.1.1,v.2.2.2.2.1.1,v.2.2.2.2.2.1,v.2.2.2.2.2.2.1,v.2.2.2.2.2.2.2.1.1.1,v.2.2.2.2.2.2.2.1.1.2.1,v.2.2.2.2.2.2.2.1.1.2.2,v.2.2.2.2.2.2.2.1.2.1.1,v.2.2.2.2.2.2.2.1.2.1.2.1,v.2.2.2.2.2.2.2.1.2.1.2.2,v.2.2.2.2.2.2.2.2.1.1.1,v.2.2.2.2.2.2.2.2.1.1.2.1,v.2.2.2.2.2.2.2.2.1.1.2.2,v.2.2.2.2.2.2.2.2.1.2.1.1,v.2.2.2.2.2.2.2.2.1.2.1.2.1,v.2.2.2.2.2.2.2.2.1.2.1.2.2⟩
 fr:=λx=>(((),((),(x.n,(x.i,((),((),((),((),((),()))))))))),(((),((),())),((x.w,()),(((),((),())),((x.last,()),(x.xs,(x.ys,(((x.oi_lo,x.oi_len,x.oi_cap),((x.os_lo,x.os_len,x.os_cap),())),(((x.bi_lo,x.bi_len,x.bi_cap),((x.bs_lo,x.bs_len,x.bs_cap),())),())))))))))
structure Qu where(w last:Int)(xs ys:List (Int))(oi_lo oi_len oi_cap os_lo os_len os_cap bi_lo bi_len bi_cap bs_lo bs_len bs_cap:Nat)
def X5:Pt Qu where
 own:=[]
 t:=⟨[(0,.c (.clo 1000000 [])),(1,.c (.ptr 7 0)),(2000003,.c (.ptr 1 0)),(2000004,.c (.ptr 2 0)),(2000007,.c (.ptr 3 0)),(2000009,.c (.ptr 6 0)),(3000000,.c (.fn 0))],[.st [.junk,.junk] 1 0,.st [.it .u8] 1 0,.st [.junk,.junk] 1 0,.st [.it .u8] 1 0,.arr (.int .u8) 0,.arr (.int .u8) 0,.st [.slc 4 0 1,.slc 5 0 1] 1 0,.st [.slc 4 0 1,.slc 5 0 1] 1 0]⟩
 to:=λv=>⟨v.2.2.1.1,v.2.2.2.2.1.1,v.2.2.2.2.2.1,v.2.2.2.2.2.2.1,v.2.2.2.2.2.2.2.1.1.1,v.2.2.2.2.2.2.2.1.1.2.1,v.2.2.2.2.2.2.2.1.1.2.2,v.2.2.2.2.2.2.2.1.2.1.1,v.2.2.2.2.2.2.2.1.2.1.2.1,v.2.2.2.2.2.2.2.1.2.1.2.2,v.2.2.2.2.2.2.2.2.1.1.1,v.2.2.2.2.2.2.2.2.1.1.2.1,v.2.2.2.2.2.2.2.2.1.1.2.2,v.2.2.2.2.2.2.2.2.1.2.1.1,v.2.2.2.2.2.2.2.2.1.2.1.2.1,v.2.2.2.2.2.2.2.2.1.2.1.2.2⟩
 fr:=λx=>(((),((),((),((),((),((),((),()))))))),(((),((),())),((x.w,()),(((),((),())),((x.last,()),(x.xs,(x.ys,(((x.oi_lo,x.oi_len,x.oi_cap),((x.os_lo,x.os_len,x.os_cap),())),(((x.bi_lo,x.bi_len,x.bi_cap),((x.bs_lo,x.bs_len,x.bs_cap),())),())))))))))
def QL(x:QN):Option (QN⊕Qu):=bif decide (x.i<x.n) then bif inR x.i x.bi_len then Q1 (Xo { v:=x.bi_lo+x.i.toNat,w:=x.w,last:=x.last,xs:=x.xs,ys:=x.ys,oi_lo:=x.oi_lo,oi_len:=x.oi_len,oi_cap:=x.oi_cap,os_lo:=x.os_lo,os_len:=x.os_len,os_cap:=x.os_cap,bi_lo:=x.bi_lo,bi_len:=x.bi_len,bi_cap:=x.bi_cap,bs_lo:=x.bs_lo,bs_len:=x.bs_len,bs_cap:=x.bs_cap }) λy=>some (Sum.inl { n:=x.n,i:=IntKind.i64.wrap (x.i+1),w:=y.w,last:=y.last,xs:=y.xs,ys:=y.ys,oi_lo:=y.oi_lo,oi_len:=y.oi_len,oi_cap:=y.oi_cap,os_lo:=y.os_lo,os_len:=y.os_len,os_cap:=y.os_cap,bi_lo:=y.bi_lo,bi_len:=y.bi_len,bi_cap:=y.bi_cap,bs_lo:=y.bs_lo,bs_len:=y.bs_len,bs_cap:=y.bs_cap }) else none
else
 some
  (Sum.inr
   {w:=x.w,last:=x.last,xs:=x.xs,ys:=x.ys,oi_lo:=x.oi_lo,oi_len:=x.oi_len,oi_cap:=x.oi_cap,os_lo:=x.os_lo,os_len:=x.os_len,os_cap:=x.os_cap,
    bi_lo:=x.bi_lo,bi_len:=x.bi_len,bi_cap:=x.bi_cap,bs_lo:=x.bs_lo,bs_len:=x.bs_len,bs_cap:=x.bs_cap })
theorem JW(x:QN):exec X9 39 (C50.Q2 0) 1 (J1.R x) (J1.H x) (J4 0 J1 (.exit 0) X5)=QL x:=by kernel_rfl
def X6:QB:=J5 0 J1 (.exit 0) X5 QL
theorem XX:QA (C50.Q2 0) 1=[]:=by kernel_rfl
theorem JZ{y:YI}(hy:Rnd R0.rA R0.rB R0.rP 57 y):QH Try.prog 39 none 0 (C50.Q2 0) X6 (some y):=QQ mixed (Q7 Q9 Q6 _) (by trivial) (λ_=>rfl) (λ_=>rfl) (XX▸Q8.nil) JW (hyk:=Zc hy)
def XA:Env:=⟨ty,QJ cl,JB [(0,X6),(1,JY)],some (R0.rP,ub0)⟩
theorem Zd{y:YI}(hy:Rnd R0.rA R0.rB R0.rP 57 y):Qp Try.prog 0 XA (some y):=JA rfl (by kernel_rfl) (by kernel_rfl) Qr hy
structure p0X where(w last:Int)(xs ys:List (Int))(oi_lo oi_len oi_cap os_lo os_len os_cap bi_lo bi_len bi_cap bs_lo bs_len bs_cap:Nat)
def p0:Pt p0X where
 own:=[]
 t:=⟨[(3,.c (.ptr 1 0)),(4,.c (.ptr 2 0)),(7,.c (.ptr 3 0)),(9,.c (.ptr 6 0)),(39,.c (.clo 50 [⟨7,0,0⟩]))],[.st [.junk,.junk] 1 0,.st [.it .u8] 1 0,.st [.junk,.junk] 1 0,.st [.it .u8] 1 0,.arr (.int .u8) 0,.arr (.int .u8) 0,.st [.slc 4 0 1,.slc 5 0 1] 1 0,.st [.slc 4 0 1,.slc 5 0 1] 1 0]⟩
 to:=λv=>⟨v.2.2.1.1,v.2.2.2.2.1.1,v.2.2.2.2.2.1,v.2.2.2.2.2.2.1,v.2.2.2.2.2.2.2.1.1.1,v.2.2.2.2.2.2.2.1.1.2.1,v.2.2.2.2.2.2.2.1.1.2.2,v.2.2.2.2.2.2.2.1.2.1.1,v.2.2.2.2.2.2.2.1.2.1.2.1,v.2.2.2.2.2.2.2.1.2.1.2.2,v.2.2.2.2.2.2.2.2.1.1.1,v.2.2.2.2.2.2.2.2.1.1.2.1,v.2.2.2.2.2.2.2.2.1.1.2.2,v.2.2.2.2.2.2.2.2.1.2.1.1,v.2.2.2.2.2.2.2.2.1.2.1.2.1,v.2.2.2.2.2.2.2.2.1.2.1.2.2⟩
 fr:=λx=>(((),((),((),((),((),()))))),(((),((),())),((x.w,()),(((),((),())),((x.last,()),(x.xs,(x.ys,(((x.oi_lo,x.oi_len,x.oi_cap),((x.os_lo,x.os_len,x.os_cap),())),(((x.bi_lo,x.bi_len,x.bi_cap),((x.bs_lo,x.bs_len,x.bs_cap),())),())))))))))
structure q0X where(w last:Int)(xs ys:List (Int))(oi_lo oi_len oi_cap os_lo os_len os_cap bi_lo bi_len bi_cap bs_lo bs_len bs_cap:Nat)
def q0:Pt q0X where
 own:=[]
 t:=⟨[(3,.c (.ptr 1 0)),(4,.c (.ptr 2 0)),(7,.c (.ptr 3 0)),(9,.c (.ptr 6 0))],[.st [.junk,.junk] 1 0,.st [.it .u8] 1 0,.st [.junk,.junk] 1 0,.st [.it .u8] 1 0,.arr (.int .u8) 0,.arr (.int .u8) 0,.st [.slc 4 0 1,.slc 5 0 1] 1 0,.st [.slc 4 0 1,.slc 5 0 1] 1 0]⟩
 to:=λv=>⟨v.2.2.1.1,v.2.2.2.2.1.1,v.2.2.2.2.2.1,v.2.2.2.2.2.2.1,v.2.2.2.2.2.2.2.1.1.1,v.2.2.2.2.2.2.2.1.1.2.1,v.2.2.2.2.2.2.2.1.1.2.2,v.2.2.2.2.2.2.2.1.2.1.1,v.2.2.2.2.2.2.2.1.2.1.2.1,v.2.2.2.2.2.2.2.1.2.1.2.2,v.2.2.2.2.2.2.2.2.1.1.1,v.2.2.2.2.2.2.2.2.1.1.2.1,v.2.2.2.2.2.2.2.2.1.1.2.2,v.2.2.2.2.2.2.2.2.1.2.1.1,v.2.2.2.2.2.2.2.2.1.2.1.2.1,v.2.2.2.2.2.2.2.2.1.2.1.2.2⟩
 fr:=λx=>(((),((),((),((),())))),(((),((),())),((x.w,()),(((),((),())),((x.last,()),(x.xs,(x.ys,(((x.oi_lo,x.oi_len,x.oi_cap),((x.os_lo,x.os_len,x.os_cap),())),(((x.bi_lo,x.bi_len,x.bi_cap),((x.bs_lo,x.bs_len,x.bs_cap),())),())))))))))
def s0(x:p0X):Option q0X:=Q1 (iter QL ⟨(↑x.bi_len:Int),0,x.w,x.last,x.xs,x.ys,x.oi_lo,x.oi_len,x.oi_cap,x.os_lo,x.os_len,x.os_cap,x.bi_lo,x.bi_len,x.bi_cap,x.bs_lo,x.bs_len,x.bs_cap⟩) λy=>Q1 (iter QK ⟨(↑y.bs_len:Int),0,y.w,y.last,y.xs,y.ys,y.oi_lo,y.oi_len,y.oi_cap,y.os_lo,y.os_len,y.os_cap,y.bi_lo,y.bi_len,y.bi_cap,y.bs_lo,y.bs_len,y.bs_cap⟩) λy=>some ⟨y.w,y.last,y.xs,y.ys,y.oi_lo,y.oi_len,y.oi_cap,y.os_lo,y.os_len,y.os_cap,y.bi_lo,y.bi_len,y.bi_cap,y.bs_lo,y.bs_len,y.bs_cap⟩
theorem Qd(x:p0X):ZA XA 39 C50 50 R0.rF (p0.R x) (p0.H x) (Xz (Zy 0 q0))=s0 x:=by kernel_rfl
def l0:QB:=mkUnit 0 p0 q0 s0
theorem ti0:QA C50 0=[(0,C50.Q2 0),(1,C50.Q2 1)]:=by kernel_rfl
theorem Qe:Z3 Try.prog 57 0 R0.rF R0.rP R0.rA R0.rB l0:=Zh mixed (Q7 Q9 Q6 _) (λhy=>Zd hy) s50 (by kernel_rfl) (λhy=>ti0▸(Q8.cons rfl (JZ hy) (Q8.cons rfl (JX hy) Q8.nil))) (λ_=>rfl) (λ_=>rfl) Qd
def E0:Env:=⟨ty,QJ cl,JB [(0,l0)],none⟩
theorem ur:Kn C19 0=[(0,R0)]:=by kernel_rfl
def m(x:gX):Option fY:=Q1 (M29.m ⟨x.i,x.s⟩) λy=>bif y !=0 then none else bif x.w==0 then Q1 (M34.m ⟨x.i,x.s⟩) λy=>Q1 (M36o.m ⟨y.1,y.2.1,y.2.2.1,y.2.2.2.1,y.2.2.2.2.1,y.2.2.2.2.2.1,y.2.2.2.2.2.2.1,y.2.2.2.2.2.2.2⟩) λy_1=>Q1 (s0 ⟨x.w,0,y_1.1,y_1.2.1,y.1,y.2.1,y.2.2.1,y.2.2.2.1,y.2.2.2.2.1,y.2.2.2.2.2.1,y_1.2.2.1,y_1.2.2.2.1,y_1.2.2.2.2.1,y_1.2.2.2.2.2.1,y_1.2.2.2.2.2.2.1,y_1.2.2.2.2.2.2.2⟩) λy=>some (y.oi_lo,y.oi_len,y.oi_cap,y.os_lo,y.os_len,y.os_cap,0,y.xs,y.ys) else bif x.w==1 then Q1 (M34.m ⟨x.i,x.s⟩) λy=>Q1 (M36o.m ⟨y.1,y.2.1,y.2.2.1,y.2.2.2.1,y.2.2.2.2.1,y.2.2.2.2.2.1,y.2.2.2.2.2.2.1,y.2.2.2.2.2.2.2⟩) λy_1=>Q1 (s0 ⟨x.w,1,y_1.1,y_1.2.1,y.1,y.2.1,y.2.2.1,y.2.2.2.1,y.2.2.2.2.1,y.2.2.2.2.2.1,y_1.2.2.1,y_1.2.2.2.1,y_1.2.2.2.2.1,y_1.2.2.2.2.2.1,y_1.2.2.2.2.2.2.1,y_1.2.2.2.2.2.2.2⟩) λy=>some (y.oi_lo,y.oi_len,y.oi_cap,y.os_lo,y.os_len,y.os_cap,0,y.xs,y.ys) else bif x.w==2 then Q1 (M35.m ⟨x.i,x.s⟩) λy=>Q1 (M40.m ⟨y⟩) λy=>bif decide (y>=0) then Q1 (M35.m ⟨x.i,x.s⟩) λy_1=>bif inR y (List.length y_1) then Q1 (M34.m ⟨x.i,x.s⟩) λy_2=>Q1 (M36o.m ⟨y_2.1,y_2.2.1,y_2.2.2.1,y_2.2.2.2.1,y_2.2.2.2.2.1,y_2.2.2.2.2.2.1,y_2.2.2.2.2.2.2.1,y_2.2.2.2.2.2.2.2⟩) λy_3=>Q1 (s0 ⟨x.w,y_1[Int.toNat y]?.getD 0,y_3.1,y_3.2.1,y_2.1,y_2.2.1,y_2.2.2.1,y_2.2.2.2.1,y_2.2.2.2.2.1,y_2.2.2.2.2.2.1,y_3.2.2.1,y_3.2.2.2.1,y_3.2.2.2.2.1,y_3.2.2.2.2.2.1,y_3.2.2.2.2.2.2.1,y_3.2.2.2.2.2.2.2⟩) λy=>some (y.oi_lo,y.oi_len,y.oi_cap,y.os_lo,y.os_len,y.os_cap,0,y.xs,y.ys) else none else Q1 (M34.m ⟨x.i,x.s⟩) λy=>Q1 (M36o.m ⟨y.1,y.2.1,y.2.2.1,y.2.2.2.1,y.2.2.2.2.1,y.2.2.2.2.2.1,y.2.2.2.2.2.2.1,y.2.2.2.2.2.2.2⟩) λy_1=>Q1 (s0 ⟨x.w,0,y_1.1,y_1.2.1,y.1,y.2.1,y.2.2.1,y.2.2.2.1,y.2.2.2.2.1,y.2.2.2.2.2.1,y_1.2.2.1,y_1.2.2.2.1,y_1.2.2.2.2.1,y_1.2.2.2.2.2.1,y_1.2.2.2.2.2.2.1,y_1.2.2.2.2.2.2.2⟩) λy=>some (y.oi_lo,y.oi_len,y.oi_cap,y.os_lo,y.os_len,y.os_cap,0,y.xs,y.ys) else none
theorem QW(x:gX):exec E0 57 C19 0 (QX 0 (g.A x)) (g.H x) (finish 0 ty [.cell 4 29,.tmp 5] f)=m x:=by kernel_rfl
theorem tl:QA C19 0=[]:=by kernel_rfl
theorem known:QV Try.prog 19 g f m:=
 QD mixed (Q7 Q9 Q6 _) s19 rfl rfl tl Q8.nil (λ_ _=>⟨rfl,rfl⟩) (λ_ _=>⟨rfl,rfl⟩) QW (hg:=Jx.of rfl (ur▸(Zs.cons rfl (by kernel_rfl) Qe Zs.nil)))
end M19q
