/- A part of the proof. -/
import Derived.Test.YtnmlmdlhhphcoaaER8QE9
import Derived.Test.YtnmlmdlhhphcoaaER8QEj
set_option linter.all false
set_option maxRecDepth 100000
noncomputable section
namespace Go.Proofs.Ytnmlmdlhhphcoaa
open Go.Abs
namespace M36
structure gX where(i s:List (Int))
def g:Sg gX:=⟨[.agg [.arr (.int .u8),.arr (.int .u8)]],[],λa b=>⟨a.1.1,a.1.2.1⟩,λx=>((x.i,(x.s,())),()),λx=>()⟩
abbrev fY:=List (Int)×List (Int)
def f:Ft fY:=⟨none,.c (.clo 50 [⟨0,0,0⟩]),[.st [.arr (.int .u8),.arr (.int .u8)] 1 0],λa b=>(b.1.1,b.1.2.1),λy=>(),λy=>((y.1,(y.2,())),())⟩
def cl:List (FuncId×Con):=[]
theorem Q6:QT Try.prog cl:=trivial
def E0:Env:=⟨ty,QJ cl,λ_=>none,none⟩
def m(x:gX):Option fY:=some (x.i,x.s)
theorem QW(x:gX):exec E0 4 C36 0 (QX 0 (g.A x)) (g.H x) (finish 0 ty [.tmp 2] f)=m x:=by kernel_rfl
theorem tl:QA C36 0=[]:=by kernel_rfl
theorem known:QV Try.prog 36 g f m:=
 QD mixed (Q7 Q9 Q6 _) s36 rfl rfl tl Q8.nil (λ_ _=>⟨rfl,rfl⟩) (λ_ _=>⟨rfl,rfl⟩) QW
def con:Con:=conG g [] f m default
theorem Q5:Qk Try.prog 36 con:=qh known
end M36
namespace M29
structure gX where(i s:List (Int))
def g:Sg gX:=⟨[.agg [.arr (.int .u8),.arr (.int .u8)]],[],λa b=>⟨a.1.1,a.1.2.1⟩,λx=>((x.i,(x.s,())),()),λx=>()⟩
abbrev fY:=Int
def f:Ft fY:=⟨none,.c (.it .i64),[],λa b=>(a),λy=>y,λy=>()⟩
def cl:List (FuncId×Con):=[(36,M36.con)]
theorem Q6:QT Try.prog cl:=⟨M36.Q5,trivial⟩
def R0:CC:=C29.Zf 0
def Xl:Env:=⟨ty,QJ cl,λ_=>none,none⟩
structure Kf where(v e:Int)(bi bs:List (Int))
def bp0:Pt Kf where
 own:=[]
 t:=⟨[(2,.c (.ptr 1 0)),(16,.c (.ip (.int .u8) 0)),(1000000,.c (.clo 1000000 [])),(1000001,.c (.ptr 2 0)),(2000002,.c (.ptr 1 0))],[.st [.junk,.junk] 1 0,.st [.it .i64] 1 0,.st [.arr (.int .u8),.arr (.int .u8)] 1 0]⟩
 to:=λv=>⟨v.1.2.1,v.2.2.1.1,v.2.2.2.1.1,v.2.2.2.1.2.1⟩
 fr:=λx=>(((),(x.v,((),((),((),()))))),(((),((),())),((x.e,()),((x.bi,(x.bs,())),()))))
structure UT where(e:Int)(bi bs:List (Int))
def bq0:Pt UT where
 own:=[]
 t:=⟨[(1000000,.c (.clo 1000000 [])),(1000001,.c (.ptr 2 0)),(2000002,.c (.ptr 1 0))],[.st [.junk,.junk] 1 0,.st [.it .i64] 1 0,.st [.arr (.int .u8),.arr (.int .u8)] 1 0]⟩
 to:=λv=>⟨v.2.2.1.1,v.2.2.2.1.1,v.2.2.2.1.2.1⟩
 fr:=λx=>(((),((),((),()))),(((),((),())),((x.e,()),((x.bi,(x.bs,())),()))))
structure bz0X where(e:Int)(bi bs:List (Int))
def bz0:Pt bz0X where
 own:=[]
 t:=⟨[(1000000,.c (.clo 1000000 [])),(1000001,.c (.ptr 2 0)),(2000002,.c (.ptr 1 0))],[.st [.junk,.junk] 1 0,.st [.it .i64] 1 0,.st [.arr (.int .u8),.arr (.int .u8)] 1 0]⟩
 to:=λv=>⟨v.2.2.1.1,v.2.2.2.1.1,v.2.2.2.1.2.1⟩
 fr:=λx=>(((),((),((),()))),(((),((),())),((x.e,()),((x.bi,(x.bs,())),()))))
def sb0(x:Kf):Option (UT⊕bz0X):=bif decide (x.v>2) then some (Sum.inr { e:=1,bi:=x.bi,bs:=x.bs }) else some (Sum.inl { e:=x.e,bi:=x.bi,bs:=x.bs })
theorem U5(x:Kf):JE Xl 21 R0.rA R0.rB (bp0.R x) (bp0.H x) (qL 0 bq0 .ret bz0)=sb0 x:=by kernel_rfl
def ub0:QB:=KP 0 bp0 bq0 .ret bz0 sb0
theorem ta0:QA R0.rA 0=[]:=by kernel_rfl
theorem tb0:QA R0.rB R0.rA.nl=[]:=by kernel_rfl
theorem Qr{y:YI}(hy:Rnd R0.rA R0.rB R0.rP 21 y):J2 Try.prog 21 0 y.assign y.body ub0:=UD mixed (Q7 Q9 Q6 _) rfl ⟨by kernel_rfl,by kernel_rfl⟩ (λ_=>rfl) (λ_=>rfl) (λ_=>rfl) (λ_=>ta0▸Q8.nil) (λl=>tb0▸Q8.nil) U5 hy
def X8:Env:=⟨ty,QJ cl,λ_=>none,some (R0.rP,ub0)⟩
theorem Zb{y:YI}(hy:Rnd R0.rA R0.rB R0.rP 21 y):Qp Try.prog 0 X8 (some y):=JA rfl (by kernel_rfl) (by kernel_rfl) Qr hy
structure QM where(n2 i2 e:Int)(bi bs:List (Int))
def J0:Pt QM where
 own:=[]
 t:=⟨[(0,.c (.clo 1000000 [])),(1,.c (.ptr 2 0)),(22,.c (.it .i64)),(23,.c (.it .i64)),(2000002,.c (.ptr 1 0)),(3000000,.c (.fn 0))],[.st [.junk,.junk] 1 0,.st [.it .i64] 1 0,.st [.arr (.int .u8),.arr (.int .u8)] 1 0]⟩
 to:=λv=>⟨v.1.2.2.1,v.1.2.2.2.1,v.2.2.1.1,v.2.2.2.1.1,v.2.2.2.1.2.1⟩
 fr:=λx=>(((),((),(x.n2,(x.i2,((),((),())))))),(((),((),())),((x.e,()),((x.bi,(x.bs,())),()))))
structure Qt where(e:Int)(bi bs:List (Int))
def X4:Pt Qt where
 own:=[]
 t:=⟨[(2000002,.c (.ptr 1 0)),(3000000,.c (.fn 0))],[.st [.junk,.junk] 1 0,.st [.it .i64] 1 0,.st [.arr (.int .u8),.arr (.int .u8)] 1 0]⟩
 to:=λv=>⟨v.2.2.1.1,v.2.2.2.1.1,v.2.2.2.1.2.1⟩
 fr:=λx=>(((),((),())),(((),((),())),((x.e,()),((x.bi,(x.bs,())),()))))
structure UI where(e:Int)(bi bs:List (Int))
def i0_z1:Pt UI where
 own:=[]
 t:=⟨[(2000002,.c (.ptr 1 0)),(3000000,.c (.fn 2))],[.st [.junk,.junk] 1 0,.st [.it .i64] 1 0,.st [.arr (.int .u8),.arr (.int .u8)] 1 0]⟩
 to:=λv=>⟨v.2.2.1.1,v.2.2.2.1.1,v.2.2.2.1.2.1⟩
 fr:=λx=>(((),((),())),(((),((),())),((x.e,()),((x.bi,(x.bs,())),()))))
def QK(x:QM):Option (QM⊕(Qt⊕UI)):=bif decide (x.i2<x.n2) then bif inR x.i2 x.bs.length then Q1 (sb0 { v:=x.bs[x.i2.toNat]?.getD 0,e:=x.e,bi:=x.bi,bs:=x.bs }) λs=>Qn s (λy=>some (Sum.inl { n2:=x.n2,i2:=IntKind.i64.wrap (x.i2+1),e:=y.e,bi:=y.bi,bs:=y.bs })) λz=>some (Sum.inr (Sum.inr { e:=z.e,bi:=z.bi,bs:=z.bs })) else none
else some (Sum.inr (Sum.inl { e:=x.e,bi:=x.bi,bs:=x.bs }))
theorem JU(x:QM):exec X8 39 (C50.Q2 1) 2 (J0.R x) (J0.H x) (Jb 0 J0 (.exit 2) X4 .ret i0_z1)=QK x:=by kernel_rfl
def JY:QB:=Jc 0 J0 (.exit 2) X4 .ret i0_z1 QK
theorem XW:QA (C50.Q2 1) 2=[]:=by kernel_rfl
theorem JX{y:YI}(hy:Rnd R0.rA R0.rB R0.rP 21 y):QH Try.prog 39 none 0 (C50.Q2 1) JY (some y):=Ql mixed (Q7 Q9 Q6 _) (by trivial) (by trivial) (λ_=>rfl) (λ_=>rfl) (λ_=>rfl) (XW▸Q8.nil) JU (hyk:=Zb hy)
def X9:Env:=⟨ty,QJ cl,JB [(1,JY)],some (R0.rP,ub0)⟩
theorem Zc{y:YI}(hy:Rnd R0.rA R0.rB R0.rP 21 y):Qp Try.prog 0 X9 (some y):=JA rfl (by kernel_rfl) (by kernel_rfl) Qr hy
structure QN where(n i e:Int)(bi bs:List (Int))
def J1:Pt QN where
 own:=[]
 t:=⟨[(0,.c (.clo 1000000 [])),(1,.c (.ptr 2 0)),(7,.c (.it .i64)),(8,.c (.it .i64)),(2000002,.c (.ptr 1 0)),(3000000,.c (.fn 0))],[.st [.junk,.junk] 1 0,.st [.it .i64] 1 0,.st [.arr (.int .u8),.arr (.int .u8)] 1 0]⟩
 to:=λv=>⟨v.1.2.2.1,v.1.2.2.2.1,v.2.2.1.1,v.2.2.2.1.1,v.2.2.2.1.2.1⟩
 fr:=λx=>(((),((),(x.n,(x.i,((),((),())))))),(((),((),())),((x.e,()),((x.bi,(x.bs,())),()))))
structure Qu where(e:Int)(bi bs:List (Int))
def X5:Pt Qu where
 own:=[]
 t:=⟨[(0,.c (.clo 1000000 [])),(1,.c (.ptr 2 0)),(2000002,.c (.ptr 1 0)),(3000000,.c (.fn 0))],[.st [.junk,.junk] 1 0,.st [.it .i64] 1 0,.st [.arr (.int .u8),.arr (.int .u8)] 1 0]⟩
 to:=λv=>⟨v.2.2.1.1,v.2.2.2.1.1,v.2.2.2.1.2.1⟩
 fr:=λx=>(((),((),((),((),())))),(((),((),())),((x.e,()),((x.bi,(x.bs,())),()))))
structure UJ where(e:Int)(bi bs:List (Int))
def i0_z0:Pt UJ where
 own:=[]
 t:=⟨[(2000002,.c (.ptr 1 0)),(3000000,.c (.fn 2))],[.st [.junk,.junk] 1 0,.st [.it .i64] 1 0,.st [.arr (.int .u8),.arr (.int .u8)] 1 0]⟩
 to:=λv=>⟨v.2.2.1.1,v.2.2.2.1.1,v.2.2.2.1.2.1⟩
 fr:=λx=>(((),((),())),(((),((),())),((x.e,()),((x.bi,(x.bs,())),()))))
def QL(x:QN):Option (QN⊕(Qu⊕UJ)):=bif decide (x.i<x.n) then bif inR x.i x.bi.length then Q1 (sb0 { v:=x.bi[x.i.toNat]?.getD 0,e:=x.e,bi:=x.bi,bs:=x.bs }) λs=>Qn s (λy=>some (Sum.inl { n:=x.n,i:=IntKind.i64.wrap (x.i+1),e:=y.e,bi:=y.bi,bs:=y.bs })) λz=>some (Sum.inr (Sum.inr { e:=z.e,bi:=z.bi,bs:=z.bs })) else none
else some (Sum.inr (Sum.inl { e:=x.e,bi:=x.bi,bs:=x.bs }))
theorem JW(x:QN):exec X9 39 (C50.Q2 0) 1 (J1.R x) (J1.H x) (Jb 0 J1 (.exit 0) X5 .ret i0_z0)=QL x:=by kernel_rfl
def X6:QB:=Jc 0 J1 (.exit 0) X5 .ret i0_z0 QL
theorem XX:QA (C50.Q2 0) 1=[]:=by kernel_rfl
theorem JZ{y:YI}(hy:Rnd R0.rA R0.rB R0.rP 21 y):QH Try.prog 39 none 0 (C50.Q2 0) X6 (some y):=Ql mixed (Q7 Q9 Q6 _) (by trivial) (by trivial) (λ_=>rfl) (λ_=>rfl) (λ_=>rfl) (XX▸Q8.nil) JW (hyk:=Zc hy)
def XA:Env:=⟨ty,QJ cl,JB [(0,X6),(1,JY)],some (R0.rP,ub0)⟩
theorem Zd{y:YI}(hy:Rnd R0.rA R0.rB R0.rP 21 y):Qp Try.prog 0 XA (some y):=JA rfl (by kernel_rfl) (by kernel_rfl) Qr hy
structure p0X where(e:Int)(bi bs:List (Int))
def p0:Pt p0X where
 own:=[]
 t:=⟨[(2,.c (.ptr 1 0)),(14,.c (.clo 50 [⟨2,0,0⟩]))],[.st [.junk,.junk] 1 0,.st [.it .i64] 1 0,.st [.arr (.int .u8),.arr (.int .u8)] 1 0]⟩
 to:=λv=>⟨v.2.2.1.1,v.2.2.2.1.1,v.2.2.2.1.2.1⟩
 fr:=λx=>(((),((),())),(((),((),())),((x.e,()),((x.bi,(x.bs,())),()))))
structure q0X where(e:Int)(bi bs:List (Int))
def q0:Pt q0X where
 own:=[]
 t:=⟨[(2,.c (.ptr 1 0))],[.st [.junk,.junk] 1 0,.st [.it .i64] 1 0,.st [.arr (.int .u8),.arr (.int .u8)] 1 0]⟩
 to:=λv=>⟨v.2.2.1.1,v.2.2.2.1.1,v.2.2.2.1.2.1⟩
 fr:=λx=>(((),()),(((),((),())),((x.e,()),((x.bi,(x.bs,())),()))))
structure z0X where(e:Int)(bi bs:List (Int))
def z0:Pt z0X where
 own:=[]
 t:=⟨[(2,.c (.ptr 1 0))],[.st [.junk,.junk] 1 0,.st [.it .i64] 1 0,.st [.arr (.int .u8),.arr (.int .u8)] 1 0]⟩
 to:=λv=>⟨v.2.2.1.1,v.2.2.2.1.1,v.2.2.2.1.2.1⟩
 fr:=λx=>(((),()),(((),((),())),((x.e,()),((x.bi,(x.bs,())),()))))
def s0(x:p0X):Option (q0X⊕z0X):=Q1 (iter QL ⟨(↑x.bi.length:Int),0,x.e,x.bi,x.bs⟩) λs=>Qn s (λy=>Q1 (iter QK ⟨(↑y.bs.length:Int),0,y.e,y.bi,y.bs⟩) λs=>Qn s (λy=>some (Sum.inl ⟨y.e,y.bi,y.bs⟩)) λz=>some (Sum.inr ⟨z.e,z.bi,z.bs⟩)) λz=>some (Sum.inr ⟨z.e,z.bi,z.bs⟩)
theorem Qd(x:p0X):ZA XA 39 C50 50 R0.rF (p0.R x) (p0.H x) (Xz (qL 0 q0 .ret z0))=s0 x:=by kernel_rfl
def l0:QB:=KP 0 p0 q0 .ret z0 s0
theorem ti0:QA C50 0=[(0,C50.Q2 0),(1,C50.Q2 1)]:=by kernel_rfl
theorem Qe:Z3 Try.prog 21 0 R0.rF R0.rP R0.rA R0.rB l0:=mkRng2_ok mixed (Q7 Q9 Q6 _) (λhy=>Zd hy) s50 (by kernel_rfl) (λhy=>ti0▸(Q8.cons rfl (JZ hy) (Q8.cons rfl (JX hy) Q8.nil))) (λ_=>rfl) (λ_=>rfl) (λ_=>rfl) Qd
def E0:Env:=⟨ty,QJ cl,JB [(0,l0)],none⟩
theorem ur:Kn C29 0=[(0,R0)]:=by kernel_rfl
def m(x:gX):Option fY:=bif decide (IntKind.i64.wrap ((↑x.i.length:Int)+(↑x.s.length:Int))>16384) then some 3 else Q1 (M36.m ⟨x.i,x.s⟩) λy=>Q1 (s0 ⟨0,y.1,y.2⟩) λs=>Qn s (λy=>some 0) λz=>some z.e
theorem QW(x:gX):exec E0 21 C29 0 (QX 0 (g.A x)) (g.H x) (finish 0 ty [.cell 2 32] f)=m x:=by kernel_rfl
theorem tl:QA C29 0=[]:=by kernel_rfl
theorem known:QV Try.prog 29 g f m:=
 QD mixed (Q7 Q9 Q6 _) s29 rfl rfl tl Q8.nil (λ_ _=>⟨rfl,rfl⟩) (λ_ _=>⟨rfl,rfl⟩) QW (hg:=Jx.of rfl (ur▸(Zs.cons rfl (by kernel_rfl) Qe Zs.nil)))
def con:Con:=XI g f m default
theorem Q5:Qk Try.prog 29 con:=Qa known (λ_=>rfl) rfl
end M29
namespace M33
structure gX where(ai as_ bi bs:List (Int))
def g:Sg gX:=⟨[.agg [.arr (.int .u8),.arr (.int .u8)],.agg [.arr (.int .u8),.arr (.int .u8)]],[],λa b=>⟨a.1.1,a.1.2.1,a.2.1.1,a.2.1.2.1⟩,λx=>((x.ai,(x.as_,())),((x.bi,(x.bs,())),())),λx=>()⟩
abbrev fY:=Int
def f:Ft fY:=⟨none,.c (.it .i64),[],λa b=>(a),λy=>y,λy=>()⟩
def cl:List (FuncId×Con):=[(29,M29.con)]
theorem Q6:QT Try.prog cl:=⟨M29.Q5,trivial⟩
def E1:Env:=⟨ty,QJ cl,λ_=>none,none⟩
structure p0X where(l:List ((List (Int))×List (Int)))(n i:Int)(ai as_ bi bs:List (Int))
def p0:Pt p0X where
 own:=[]
 t:=⟨[(2,.c (.ptr 0 0)),(3,.c (.ptr 1 0)),(10,.c (.arr (.pair (.sl (.int .u8)) (.sl (.int .u8))))),(11,.c (.it .i64)),(12,.c (.it .i64))],[.st [.arr (.int .u8),.arr (.int .u8)] 1 0,.st [.arr (.int .u8),.arr (.int .u8)] 1 0]⟩
 to:=λv=>⟨v.1.2.2.1,v.1.2.2.2.1,v.1.2.2.2.2.1,v.2.1.1,v.2.1.2.1,v.2.2.1.1,v.2.2.1.2.1⟩
 fr:=λx=>(((),((),(x.l,(x.n,(x.i,()))))),((x.ai,(x.as_,())),((x.bi,(x.bs,())),())))
structure q0X where(ai as_ bi bs:List (Int))
def q0:Pt q0X where
 own:=[]
 t:=⟨[(2,.c (.ptr 0 0)),(3,.c (.ptr 1 0))],[.st [.arr (.int .u8),.arr (.int .u8)] 1 0,.st [.arr (.int .u8),.arr (.int .u8)] 1 0]⟩
 to:=λv=>⟨v.2.1.1,v.2.1.2.1,v.2.2.1.1,v.2.2.1.2.1⟩
 fr:=λx=>(((),((),())),((x.ai,(x.as_,())),((x.bi,(x.bs,())),())))
structure z0X where(r:Int)
def z0:Pt z0X where
 own:=[]
 t:=⟨[(4,.c (.it .i64))],[]⟩
 to:=λv=>⟨v.1.1⟩
 fr:=λx=>((x.r,()),())
def s0(x:p0X):Option (p0X⊕(q0X⊕z0X)):=bif decide (x.i<x.n) then bif inR x.i x.l.length then Q1 (M29.m ⟨(x.l[x.i.toNat]?.getD ([],[])).1,(x.l[x.i.toNat]?.getD ([],[])).2⟩) λy=>bif y !=0 then some (Sum.inr (Sum.inr ⟨y⟩)) else some (Sum.inl ⟨x.l,x.n,IntKind.i64.wrap (x.i+1),x.ai,x.as_,x.bi,x.bs⟩) else none else some (Sum.inr (Sum.inl ⟨x.ai,x.as_,x.bi,x.bs⟩))
theorem Qd(x:p0X):exec E1 38 (C33.Q2 0) 1 (p0.R x) (p0.H x) (Jb 0 p0 (.exit 0) q0 .ret z0)=s0 x:=by kernel_rfl
def l0:QB:=Jc 0 p0 (.exit 0) q0 .ret z0 s0
theorem tl0:QA (C33.Q2 0) 1=[]:=by kernel_rfl
theorem Qe  :QH Try.prog 38 none 0 (C33.Q2 0) l0:=Ql mixed (Q7 Q9 Q6 _) (by trivial) (by trivial) (λ_=>rfl) (λ_=>rfl) (λ_=>rfl) (tl0▸Q8.nil) Qd
def E0:Env:=⟨ty,QJ cl,JB [(0,l0)],none⟩
def m(x:gX):Option fY:=Q1 (iter s0 ⟨[(x.ai,x.as_),(x.bi,x.bs)],(↑2:Int),0,x.ai,x.as_,x.bi,x.bs⟩) λs=>Qn s (λy=>bif bif (↑y.ai.length:Int) !=(↑y.bi.length:Int) then true else (↑y.as_.length:Int) !=(↑y.bs.length:Int) then some 8 else some 0) λz=>some z.r
theorem QW(x:gX):exec E0 38 C33 0 (QX 0 (g.A x)) (g.H x) (finish 0 ty [.tmp 4] f)=m x:=by kernel_rfl
theorem tl:QA C33 0=[(0,C33.Q2 0)]:=by kernel_rfl
theorem known:QV Try.prog 33 g f m:=
 QD mixed (Q7 Q9 Q6 _) s33 rfl rfl tl (Q8.cons rfl Qe Q8.nil) (λ_ _=>⟨rfl,rfl⟩) (λ_ _=>⟨rfl,rfl⟩) QW
def con:Con:=XI g f m default
theorem Q5:Qk Try.prog 33 con:=Qa known (λ_=>rfl) rfl
end M33
namespace M34
structure gX where(i s:List (Int))
def g:Sg gX:=⟨[.agg [.arr (.int .u8),.arr (.int .u8)]],[],λa b=>⟨a.1.1,a.1.2.1⟩,λx=>((x.i,(x.s,())),()),λx=>()⟩
abbrev fY:=Nat×Nat×Nat×Nat×Nat×Nat×List (Int)×List (Int)
def f:Ft fY:=⟨some [2,3,0,1],.agg [.slc 0 0 1,.slc 1 0 1],[.arr (.int .u8) 0,.arr (.int .u8) 0],λa b=>(a.1.1,a.1.2.1,a.1.2.2,a.2.1.1,a.2.1.2.1,a.2.1.2.2,b.1,b.2.1),λy=>((y.1,y.2.1,y.2.2.1),((y.2.2.2.1,y.2.2.2.2.1,y.2.2.2.2.2.1),())),λy=>(y.2.2.2.2.2.2.1,(y.2.2.2.2.2.2.2,()))⟩
def cl:List (FuncId×Con):=[]
theorem Q6:QT Try.prog cl:=trivial
def E0:Env:=⟨ty,QJ cl,λ_=>none,none⟩
def m(x:gX):Option fY:=bif decide (0<=(↑x.i.length:Int))&&decide ((↑x.i.length:Int)*(↑1:Int)<=281474976710656)&&decide ((↑x.i.length:Int)<=9223372036854775807) then bif leB (0+x.i.length) (↑x.i.length:Int).toNat&&leB (0+(↑x.i.length:Int).toNat) (List.replicate (↑x.i.length:Int).toNat (0:Int)).length then bif decide (0<=(↑x.s.length:Int))&&decide ((↑x.s.length:Int)*(↑1:Int)<=281474976710656)&&decide ((↑x.s.length:Int)<=9223372036854775807) then bif leB (0+x.s.length) (↑x.s.length:Int).toNat&&leB (0+(↑x.s.length:Int).toNat) (List.replicate (↑x.s.length:Int).toNat (0:Int)).length then some (0,0+x.i.length,(↑x.i.length:Int).toNat,0,0+x.s.length,(↑x.s.length:Int).toNat,List.take 0 (List.replicate (↑x.i.length:Int).toNat (0:Int))++x.i++List.drop (0+x.i.length) (List.replicate (↑x.i.length:Int).toNat (0:Int)),List.take 0 (List.replicate (↑x.s.length:Int).toNat (0:Int))++x.s++List.drop (0+x.s.length) (List.replicate (↑x.s.length:Int).toNat (0:Int))) else none else none else none else none
theorem QW(x:gX):exec E0 18 C34 0 (QX 0 (g.A x)) (g.H x) (finish 0 ty [.cell 2 29] f)=m x:=by kernel_rfl
theorem tl:QA C34 0=[]:=by kernel_rfl
theorem known:QV Try.prog 34 g f m:=
 QD mixed (Q7 Q9 Q6 _) s34 rfl rfl tl Q8.nil (λ_ _=>⟨rfl,rfl⟩) (λ_ _=>⟨rfl,rfl⟩) QW
def con:Con:=conG g [] f m default
theorem Q5:Qk Try.prog 34 con:=qh known
end M34
namespace M36o
structure gX where(i_lo i_len i_cap s_lo s_len s_cap:Nat)(xs ys:List (Int))
def g:Sg gX:=⟨[.agg [.slc 0 0 1,.slc 1 0 1]],[.arr (.int .u8) 0,.arr (.int .u8) 0],λa b=>⟨a.1.1.1,a.1.1.2.1,a.1.1.2.2,a.1.2.1.1,a.1.2.1.2.1,a.1.2.1.2.2,b.1,b.2.1⟩,λx=>(((x.i_lo,x.i_len,x.i_cap),((x.s_lo,x.s_len,x.s_cap),())),()),λx=>(x.xs,(x.ys,()))⟩
abbrev fY:=List (Int)×List (Int)×Nat×Nat×Nat×Nat×Nat×Nat
def f:Ft fY:=⟨none,.c (.clo 50 [⟨2,0,0⟩]),[.arr (.int .u8) 0,.arr (.int .u8) 0,.st [.slc 0 0 1,.slc 1 0 1] 1 0],λa b=>(b.1,b.2.1,b.2.2.1.1.1,b.2.2.1.1.2.1,b.2.2.1.1.2.2,b.2.2.1.2.1.1,b.2.2.1.2.1.2.1,b.2.2.1.2.1.2.2),λy=>(),λy=>(y.1,(y.2.1,(((y.2.2.1,y.2.2.2.1,y.2.2.2.2.1),((y.2.2.2.2.2.1,y.2.2.2.2.2.2.1,y.2.2.2.2.2.2.2),())),())))⟩
def cl:List (FuncId×Con):=[]
theorem Q6:QT Try.prog cl:=trivial
def E0:Env:=⟨ty,QJ cl,λ_=>none,none⟩
def m(x:gX):Option fY:=some (x.xs,x.ys,x.i_lo,x.i_len,x.i_cap,x.s_lo,x.s_len,x.s_cap)
theorem QW(x:gX):exec E0 4 C36 0 (QX 0 (g.A x)) (g.H x) (finish 2 ty [.tmp 2] f)=m x:=by kernel_rfl
theorem tl:QA C36 0=[]:=by kernel_rfl
theorem known:QV Try.prog 36 g f m:=
 QD mixed (Q7 Q9 Q6 _) s36 rfl rfl tl Q8.nil (λ_ _=>⟨rfl,rfl⟩) (λ_ _=>⟨rfl,rfl⟩) QW
def con:Con:=conG g [.arg 0 0,.arg 0 1] f m default
theorem Q5:Qk Try.prog 36 con:=qh known
end M36o
namespace M44
structure gX where(s t:List (Int))
def g:Sg gX:=⟨[.c (.arr (.int .u8)),.c (.arr (.int .u8))],[],λa b=>⟨a.1,a.2.1⟩,λx=>(x.s,(x.t,())),λx=>()⟩
abbrev fY:=Bool
def f:Ft fY:=⟨none,.c (.bo),[],λa b=>(a),λy=>y,λy=>()⟩
def cl:List (FuncId×Con):=[]
theorem Q6:QT Try.prog cl:=trivial
def E1:Env:=⟨ty,QJ cl,λ_=>none,none⟩
structure p0X where(s t:List (Int))(n i:Int)
def p0:Pt p0X where
 own:=[]
 t:=⟨[(0,.c (.arr (.int .u8))),(1,.c (.arr (.int .u8))),(12,.c (.it .i64)),(13,.c (.it .i64))],[]⟩
 to:=λv=>⟨v.1.1,v.1.2.1,v.1.2.2.1,v.1.2.2.2.1⟩
 fr:=λx=>((x.s,(x.t,(x.n,(x.i,())))),())
abbrev q0X:=Unit
def q0:Pt q0X where
 own:=[]
 t:=⟨[],[]⟩
 to:=λv=>()
 fr:=λx=>((),())
structure z0X where(r:Bool)
def z0:Pt z0X where
 own:=[]
 t:=⟨[(4,.c (.bo))],[]⟩
 to:=λv=>⟨v.1.1⟩
 fr:=λx=>((x.r,()),())
def s0(x:p0X):Option (p0X⊕(q0X⊕z0X)):=bif decide (x.i<x.n) then bif inR x.i x.s.length then bif inR x.i x.t.length then bif x.s[x.i.toNat]?.getD 0 !=x.t[x.i.toNat]?.getD 0 then some (Sum.inr (Sum.inr ⟨false⟩)) else some (Sum.inl ⟨x.s,x.t,x.n,IntKind.i64.wrap (x.i+1)⟩) else none else none else some (Sum.inr (Sum.inl PUnit.unit))
theorem Qd(x:p0X):exec E1 26 (C44.Q2 0) 1 (p0.R x) (p0.H x) (Jb 0 p0 (.exit 0) q0 .ret z0)=s0 x:=by kernel_rfl
def l0:QB:=Jc 0 p0 (.exit 0) q0 .ret z0 s0
theorem tl0:QA (C44.Q2 0) 1=[]:=by kernel_rfl
theorem Qe  :QH Try.prog 26 none 0 (C44.Q2 0) l0:=Ql mixed (Q7 Q9 Q6 _) (by trivial) (by trivial) (λ_=>rfl) (λ_=>rfl) (λ_=>rfl) (tl0▸Q8.nil) Qd
def E0:Env:=⟨ty,QJ cl,JB [(0,l0)],none⟩
def m(x:gX):Option fY:=bif (↑x.s.length:Int) !=(↑x.t.length:Int) then some false else Q1 (iter s0 ⟨x.s,x.t,(↑x.s.length:Int),0⟩) λs=>Qn s (λy=>some true) λz=>some z.r
theorem QW(x:gX):exec E0 26 C44 0 (QX 0 (g.A x)) (g.H x) (finish 0 ty [.tmp 4] f)=m x:=by kernel_rfl
theorem tl:QA C44 0=[(0,C44.Q2 0)]:=by kernel_rfl
theorem known:QV Try.prog 44 g f m:=
 QD mixed (Q7 Q9 Q6 _) s44 rfl rfl tl (Q8.cons rfl Qe Q8.nil) (λ_ _=>⟨rfl,rfl⟩) (λ_ _=>⟨rfl,rfl⟩) QW
def con:Con:=XI g f m default
theorem Q5:Qk Try.prog 44 con:=Qa known (λ_=>rfl) rfl
end M44
namespace M25
structure gX where(ai as_ bi bs:List (Int))
def g:Sg gX:=⟨[.agg [.arr (.int .u8),.arr (.int .u8)],.agg [.arr (.int .u8),.arr (.int .u8)]],[],λa b=>⟨a.1.1,a.1.2.1,a.2.1.1,a.2.1.2.1⟩,λx=>((x.ai,(x.as_,())),((x.bi,(x.bs,())),())),λx=>()⟩
abbrev fY:=Bool
def f:Ft fY:=⟨none,.c (.bo),[],λa b=>(a),λy=>y,λy=>()⟩
def cl:List (FuncId×Con):=[(44,M44.con)]
theorem Q6:QT Try.prog cl:=⟨M44.Q5,trivial⟩
def E0:Env:=⟨ty,QJ cl,λ_=>none,none⟩
def m(x:gX):Option fY:=Q1 (M44.m ⟨x.ai,x.bi⟩) λy=>Q1 (bif y then M44.m ⟨x.as_,x.bs⟩ else some false) λy_1=>some (bif y then y_1 else false)
theorem QW(x:gX):exec E0 17 C25 0 (QX 0 (g.A x)) (g.H x) (finish 0 ty [.tmp 4] f)=m x:=by kernel_rfl
theorem tl:QA C25 0=[]:=by kernel_rfl
theorem known:QV Try.prog 25 g f m:=
 QD mixed (Q7 Q9 Q6 _) s25 rfl rfl tl Q8.nil (λ_ _=>⟨rfl,rfl⟩) (λ_ _=>⟨rfl,rfl⟩) QW
def con:Con:=XI g f m default
theorem Q5:Qk Try.prog 25 con:=Qa known (λ_=>rfl) rfl
end M25
namespace M38
structure gX where(x y:Int)
def g:Sg gX:=⟨[.c (.it .u8),.c (.it .u8)],[],λa b=>⟨a.1,a.2.1⟩,λx=>(x.x,(x.y,())),λx=>()⟩
abbrev fY:=Bool
def f:Ft fY:=⟨none,.c (.bo),[],λa b=>(a),λy=>y,λy=>()⟩
def cl:List (FuncId×Con):=[]
theorem Q6:QT Try.prog cl:=trivial
def E0:Env:=⟨ty,QJ cl,λ_=>none,none⟩
def m(x:gX):Option fY:=some (bif x.x !=2 then x.x !=x.y else false)
theorem QW(x:gX):exec E0 12 C38 0 (QX 0 (g.A x)) (g.H x) (finish 0 ty [.tmp 4] f)=m x:=by kernel_rfl
theorem tl:QA C38 0=[]:=by kernel_rfl
theorem known:QV Try.prog 38 g f m:=
 QD mixed (Q7 Q9 Q6 _) s38 rfl rfl tl Q8.nil (λ_ _=>⟨rfl,rfl⟩) (λ_ _=>⟨rfl,rfl⟩) QW
def con:Con:=XI g f m default
theorem Q5:Qk Try.prog 38 con:=Qa known (λ_=>rfl) rfl
end M38
namespace M39
structure gX where(x y:Int)
def g:Sg gX:=⟨[.c (.it .u8),.c (.it .u8)],[],λa b=>⟨a.1,a.2.1⟩,λx=>(x.x,(x.y,())),λx=>()⟩
abbrev fY:=Bool
def f:Ft fY:=⟨none,.c (.bo),[],λa b=>(a),λy=>y,λy=>()⟩
def cl:List (FuncId×Con):=[]
theorem Q6:QT Try.prog cl:=trivial
def E0:Env:=⟨ty,QJ cl,λ_=>none,none⟩
def m(x:gX):Option fY:=some (IntKind.u8.wrap (x.x+x.y)==1)
theorem QW(x:gX):exec E0 9 C39 0 (QX 0 (g.A x)) (g.H x) (finish 0 ty [.tmp 4] f)=m x:=by kernel_rfl
theorem tl:QA C39 0=[]:=by kernel_rfl
theorem known:QV Try.prog 39 g f m:=
 QD mixed (Q7 Q9 Q6 _) s39 rfl rfl tl Q8.nil (λ_ _=>⟨rfl,rfl⟩) (λ_ _=>⟨rfl,rfl⟩) QW
def con:Con:=XI g f m default
theorem Q5:Qk Try.prog 39 con:=Qa known (λ_=>rfl) rfl
end M39
namespace M41
structure gX where(v:Int)
def g:Sg gX:=⟨[.c (.it .u8)],[],λa b=>⟨a.1⟩,λx=>(x.v,()),λx=>()⟩
abbrev fY:=Bool
def f:Ft fY:=⟨none,.c (.bo),[],λa b=>(a),λy=>y,λy=>()⟩
def cl:List (FuncId×Con):=[]
theorem Q6:QT Try.prog cl:=trivial
def E0:Env:=⟨ty,QJ cl,λ_=>none,none⟩
def m(x:gX):Option fY:=some (x.v !=2)
theorem QW(x:gX):exec E0 5 C41 0 (QX 0 (g.A x)) (g.H x) (finish 0 ty [.tmp 2] f)=m x:=by kernel_rfl
theorem tl:QA C41 0=[]:=by kernel_rfl
theorem known:QV Try.prog 41 g f m:=
 QD mixed (Q7 Q9 Q6 _) s41 rfl rfl tl Q8.nil (λ_ _=>⟨rfl,rfl⟩) (λ_ _=>⟨rfl,rfl⟩) QW
def con:Con:=XI g f m default
theorem Q5:Qk Try.prog 41 con:=Qa known (λ_=>rfl) rfl
end M41
namespace M40
structure gX where(s:List (Int))
def g:Sg gX:=⟨[.c (.arr (.int .u8)),.c (.fn 41)],[],λa b=>⟨a.1⟩,λx=>(x.s,((),())),λx=>()⟩
abbrev fY:=Int
def f:Ft fY:=⟨none,.c (.it .i64),[],λa b=>(a),λy=>y,λy=>()⟩
def cl:List (FuncId×Con):=[(41,M41.con)]
theorem Q6:QT Try.prog cl:=⟨M41.Q5,trivial⟩
def E1:Env:=⟨ty,QJ cl,λ_=>none,none⟩
structure p0X where(s:List (Int))(n i:Int)
def p0:Pt p0X where
 own:=[]
 t:=⟨[(0,.c (.arr (.int .u8))),(1,.c (.fn 41)),(7,.c (.it .i64)),(8,.c (.it .i64))],[]⟩
 to:=λv=>⟨v.1.1,v.1.2.2.1,v.1.2.2.2.1⟩
 fr:=λx=>((x.s,((),(x.n,(x.i,())))),())
abbrev q0X:=Unit
def q0:Pt q0X where
 own:=[]
 t:=⟨[],[]⟩
 to:=λv=>()
 fr:=λx=>((),())
structure z0X where(r:Int)
def z0:Pt z0X where
 own:=[]
 t:=⟨[(4,.c (.it .i64))],[]⟩
 to:=λv=>⟨v.1.1⟩
 fr:=λx=>((x.r,()),())
def s0(x:p0X):Option (p0X⊕(q0X⊕z0X)):=bif decide (x.i<x.n) then bif inR x.i x.s.length then Q1 (M41.m ⟨x.s[x.i.toNat]?.getD 0⟩) λy=>bif y then some (Sum.inr (Sum.inr ⟨x.i⟩)) else some (Sum.inl ⟨x.s,x.n,IntKind.i64.wrap (x.i+1)⟩) else none else some (Sum.inr (Sum.inl PUnit.unit))
theorem Qd(x:p0X):exec E1 19 (C40.Q2 0) 1 (p0.R x) (p0.H x) (Jb 0 p0 (.exit 0) q0 .ret z0)=s0 x:=by kernel_rfl
def l0:QB:=Jc 0 p0 (.exit 0) q0 .ret z0 s0
theorem tl0:QA (C40.Q2 0) 1=[]:=by kernel_rfl
theorem Qe  :QH Try.prog 19 none 0 (C40.Q2 0) l0:=Ql mixed (Q7 Q9 Q6 _) (by trivial) (by trivial) (λ_=>rfl) (λ_=>rfl) (λ_=>rfl) (tl0▸Q8.nil) Qd
def E0:Env:=⟨ty,QJ cl,JB [(0,l0)],none⟩
def m(x:gX):Option fY:=Q1 (iter s0 ⟨x.s,(↑x.s.length:Int),0⟩) λs=>Qn s (λy=>some (-1)) λz=>some z.r
theorem QW(x:gX):exec E0 19 C40 0 (QX 0 (g.A x)) (g.H x) (finish 0 ty [.tmp 4] f)=m x:=by kernel_rfl
theorem tl:QA C40 0=[(0,C40.Q2 0)]:=by kernel_rfl
theorem known:QV Try.prog 40 g f m:=
 QD mixed (Q7 Q9 Q6 _) s40 rfl rfl tl (Q8.cons rfl Qe Q8.nil) (λ_ _=>⟨rfl,rfl⟩) (λ_ _=>⟨rfl,rfl⟩) QW
def con:Con:=XI g f m default
theorem Q5:Qk Try.prog 40 con:=Qa known (λ_=>rfl) rfl
end M40
namespace M49
structure gX where(l:List (List (Int)))
def g:Sg gX:=⟨[.c (.arr (.sl (.int .u8)))],[],λa b=>⟨a.1⟩,λx=>(x.l,()),λx=>()⟩
abbrev fY:=List (Int)
def f:Ft fY:=⟨none,.c (.arr (.int .u8)),[],λa b=>(a),λy=>y,λy=>()⟩
def cl:List (FuncId×Con):=[(55,M55.con)]
theorem Q6:QT Try.prog cl:=⟨M55.Q5,trivial⟩
def E2:Env:=⟨ty,QJ cl,λ_=>none,none⟩
structure p1X where(s_lo s_len:Nat)(l:List (List (Int)))(n i:Int)(xs:List (Int))
def p1:Pt p1X where
 own:=[]
 t:=⟨[(6,.c (.sl 0 0 1)),(25,.c (.arr (.sl (.int .u8)))),(26,.c (.it .i64)),(27,.c (.it .i64))],[.arr (.int .u8) 0]⟩
 to:=λv=>⟨v.1.1.1,v.1.1.2,v.1.2.1,v.1.2.2.1,v.1.2.2.2.1,v.2.1⟩
 fr:=λx=>(((x.s_lo,x.s_len),(x.l,(x.n,(x.i,())))),(x.xs,()))
structure q1X where(s_lo s_len:Nat)(xs:List (Int))
def q1:Pt q1X where
 own:=[]
 t:=⟨[(6,.c (.sl 0 0 1))],[.arr (.int .u8) 0]⟩
 to:=λv=>⟨v.1.1.1,v.1.1.2,v.2.1⟩
 fr:=λx=>(((x.s_lo,x.s_len),()),(x.xs,()))
def s1(x:p1X):Option (p1X⊕q1X):=bif decide (x.i<x.n) then bif inR x.i x.l.length then bif eqN x.s_lo 0&&eqN x.xs.length x.s_len&&Qz (x.s_len+List.length (x.l[x.i.toNat]?.getD [])) 1 then some (Sum.inl ⟨0,x.s_len+List.length (x.l[x.i.toNat]?.getD []),x.l,x.n,IntKind.i64.wrap (x.i+1),x.xs++x.l[x.i.toNat]?.getD []⟩) else none else none else some (Sum.inr ⟨x.s_lo,x.s_len,x.xs⟩)
theorem YT(x:p1X):exec E2 36 (C49.Q2 1) 2 (p1.R x) (p1.H x) (J4 0 p1 (.exit 2) q1)=s1 x:=by kernel_rfl
def l1:QB:=J5 0 p1 (.exit 2) q1 s1
theorem tl1:QA (C49.Q2 1) 2=[]:=by kernel_rfl
theorem Yd  :QH Try.prog 36 none 0 (C49.Q2 1) l1:=QQ mixed (Q7 Q9 Q6 _) (by trivial) (λ_=>rfl) (λ_=>rfl) (tl1▸Q8.nil) YT
def E1:Env:=⟨ty,QJ cl,JB [(1,l1)],none⟩
structure p0X where(l:List (List (Int)))(size:Int)(l9:List (List (Int)))(n i:Int)
def p0:Pt p0X where
 own:=[]
 t:=⟨[(0,.c (.arr (.sl (.int .u8)))),(3,.c (.it .i64)),(9,.c (.arr (.sl (.int .u8)))),(10,.c (.it .i64)),(11,.c (.it .i64))],[]⟩
 to:=λv=>⟨v.1.1,v.1.2.1,v.1.2.2.1,v.1.2.2.2.1,v.1.2.2.2.2.1⟩
 fr:=λx=>((x.l,(x.size,(x.l9,(x.n,(x.i,()))))),())
structure q0X where(l:List (List (Int)))(size:Int)
def q0:Pt q0X where
 own:=[]
 t:=⟨[(0,.c (.arr (.sl (.int .u8)))),(3,.c (.it .i64))],[]⟩
 to:=λv=>⟨v.1.1,v.1.2.1⟩
 fr:=λx=>((x.l,(x.size,())),())
def s0(x:p0X):Option (p0X⊕q0X):=bif decide (x.i<x.n) then bif inR x.i x.l9.length then bif decide (IntKind.i64.wrap (x.size+(↑(List.length (x.l9[x.i.toNat]?.getD [])):Int))<0) then none else some (Sum.inl ⟨x.l,IntKind.i64.wrap (x.size+(↑(List.length (x.l9[x.i.toNat]?.getD [])):Int)),x.l9,x.n,IntKind.i64.wrap (x.i+1)⟩) else none else some (Sum.inr ⟨x.l,x.size⟩)
theorem Qd(x:p0X):exec E1 36 (C49.Q2 0) 1 (p0.R x) (p0.H x) (J4 0 p0 (.exit 0) q0)=s0 x:=by kernel_rfl
def l0:QB:=J5 0 p0 (.exit 0) q0 s0
theorem tl0:QA (C49.Q2 0) 1=[]:=by kernel_rfl
theorem Qe  :QH Try.prog 36 none 0 (C49.Q2 0) l0:=QQ mixed (Q7 Q9 Q6 _) (by trivial) (λ_=>rfl) (λ_=>rfl) (tl0▸Q8.nil) Qd
def E0:Env:=⟨ty,QJ cl,JB [(0,l0),(1,l1)],none⟩
def m(x:gX):Option fY:=Q1 (iter s0 ⟨x.l,0,x.l,(↑x.l.length:Int),0⟩) λy=>Q1 (M55.m ⟨y.size⟩) λy_1=>Q1 (iter s1 ⟨y_1.1,y_1.2.1,y.l,(↑y.l.length:Int),0,y_1.2.2⟩) λy=>bif leB (y.s_lo+y.s_len) y.xs.length&&true&&true then some (List.take y.s_len (List.drop y.s_lo y.xs)) else none
theorem QW(x:gX):exec E0 36 C49 0 (QX 0 (g.A x)) (g.H x) (finish 0 ty [.tmp 2] f)=m x:=by kernel_rfl
theorem tl:QA C49 0=[(0,C49.Q2 0),(1,C49.Q2 1)]:=by kernel_rfl
theorem known:QV Try.prog 49 g f m:=
 QD mixed (Q7 Q9 Q6 _) s49 rfl rfl tl (Q8.cons rfl Qe (Q8.cons rfl Yd Q8.nil)) (λ_ _=>⟨rfl,rfl⟩) (λ_ _=>⟨rfl,rfl⟩) QW
def con:Con:=XI g f m default
theorem Q5:Qk Try.prog 49 con:=Qa known (λ_=>rfl) rfl
end M49
namespace M35
structure gX where(i s:List (Int))
def g:Sg gX:=⟨[.agg [.arr (.int .u8),.arr (.int .u8)]],[],λa b=>⟨a.1.1,a.1.2.1⟩,λx=>((x.i,(x.s,())),()),λx=>()⟩
abbrev fY:=List (Int)
def f:Ft fY:=⟨none,.c (.arr (.int .u8)),[],λa b=>(a),λy=>y,λy=>()⟩
def cl:List (FuncId×Con):=[(49,M49.con)]
theorem Q6:QT Try.prog cl:=⟨M49.Q5,trivial⟩
def E0:Env:=⟨ty,QJ cl,λ_=>none,none⟩
def m(x:gX):Option fY:=Q1 (M49.m ⟨[x.i,x.s]⟩) λy=>some y
theorem QW(x:gX):exec E0 9 C35 0 (QX 0 (g.A x)) (g.H x) (finish 0 ty [.tmp 2] f)=m x:=by kernel_rfl
theorem tl:QA C35 0=[]:=by kernel_rfl
theorem known:QV Try.prog 35 g f m:=
 QD mixed (Q7 Q9 Q6 _) s35 rfl rfl tl Q8.nil (λ_ _=>⟨rfl,rfl⟩) (λ_ _=>⟨rfl,rfl⟩) QW
def con:Con:=XI g f m default
theorem Q5:Qk Try.prog 35 con:=Qa known (λ_=>rfl) rfl
end M35
namespace M37c
structure gX where(ai as_ bi bs:List (Int))
def g:Sg gX:=⟨[.agg [.arr (.int .u8),.arr (.int .u8)],.agg [.arr (.int .u8),.arr (.int .u8)],.c (.fn 38)],[],λa b=>⟨a.1.1,a.1.2.1,a.2.1.1,a.2.1.2.1⟩,λx=>((x.ai,(x.as_,())),((x.bi,(x.bs,())),((),()))),λx=>()⟩
abbrev fY:=Int
def f:Ft fY:=⟨none,.c (.it .i64),[],λa b=>(a),λy=>y,λy=>()⟩
def cl:List (FuncId×Con):=[(33,M33.con),(35,M35.con),(36,M36.con),(38,M38.con)]
theorem Q6:QT Try.prog cl:=⟨M33.Q5,M35.Q5,M36.Q5,M38.Q5,trivial⟩
def R0:CC:=C37.Zf 0
def Xl:Env:=⟨ty,QJ cl,λ_=>none,none⟩
structure Kf where(i v n0:Int)(l bi bs:List (Int))
def bp0:Pt Kf where
 own:=[]
 t:=⟨[(5,.c (.ptr 2 0)),(6,.c (.ptr 3 0)),(7,.c (.ptr 4 0)),(18,.c (.it .i64)),(19,.c (.ip (.int .u8) 0)),(1000000,.c (.clo 1000000 [])),(1000001,.c (.ptr 5 0)),(2000005,.c (.ptr 2 0)),(2000006,.c (.ptr 3 0)),(2000007,.c (.ptr 4 0))],[.st [.junk,.junk] 1 0,.st [.junk,.junk] 1 0,.st [.fn 38] 1 0,.st [.it .i64] 1 0,.st [.arr (.int .u8)] 1 0,.st [.arr (.int .u8),.arr (.int .u8)] 1 0]⟩
 to:=λv=>⟨v.1.2.2.2.1,v.1.2.2.2.2.1,v.2.2.2.2.1.1,v.2.2.2.2.2.1.1,v.2.2.2.2.2.2.1.1,v.2.2.2.2.2.2.1.2.1⟩
 fr:=λx=>(((),((),((),(x.i,(x.v,((),((),((),((),((),())))))))))),(((),((),())),(((),((),())),(((),()),((x.n0,()),((x.l,()),((x.bi,(x.bs,())),())))))))
structure UT where(n0:Int)(l bi bs:List (Int))
def bq0:Pt UT where
 own:=[]
 t:=⟨[(1000000,.c (.clo 1000000 [])),(1000001,.c (.ptr 5 0)),(2000005,.c (.ptr 2 0)),(2000006,.c (.ptr 3 0)),(2000007,.c (.ptr 4 0))],[.st [.junk,.junk] 1 0,.st [.junk,.junk] 1 0,.st [.fn 38] 1 0,.st [.it .i64] 1 0,.st [.arr (.int .u8)] 1 0,.st [.arr (.int .u8),.arr (.int .u8)] 1 0]⟩
 to:=λv=>⟨v.2.2.2.2.1.1,v.2.2.2.2.2.1.1,v.2.2.2.2.2.2.1.1,v.2.2.2.2.2.2.1.2.1⟩
 fr:=λx=>(((),((),((),((),((),()))))),(((),((),())),(((),((),())),(((),()),((x.n0,()),((x.l,()),((x.bi,(x.bs,())),())))))))
def sb0(x:Kf):Option UT:=bif inR x.i x.l.length then Q1 (M38.m { x:=x.v,y:=x.l[x.i.toNat]?.getD 0 }) λy=>bif y then some { n0:=IntKind.i64.wrap (x.n0+1),l:=x.l,bi:=x.bi,bs:=x.bs } else some { n0:=x.n0,l:=x.l,bi:=x.bi,bs:=x.bs }
else none
theorem U5(x:Kf):JE Xl 32 R0.rA R0.rB (bp0.R x) (bp0.H x) (Zy 0 bq0)=sb0 x:=by kernel_rfl
def ub0:QB:=mkUnit 0 bp0 bq0 sb0
theorem ta0:QA R0.rA 0=[]:=by kernel_rfl
theorem tb0:QA R0.rB R0.rA.nl=[]:=by kernel_rfl
theorem Qr{y:YI}(hy:Rnd R0.rA R0.rB R0.rP 32 y):J2 Try.prog 32 0 y.assign y.body ub0:=Jk mixed (Q7 Q9 Q6 _) rfl ⟨by kernel_rfl,by kernel_rfl⟩ (λ_=>rfl) (λ_=>rfl) (λ_=>ta0▸Q8.nil) (λl=>tb0▸Q8.nil) U5 hy
def X8:Env:=⟨ty,QJ cl,λ_=>none,some (R0.rP,ub0)⟩
theorem Zb{y:YI}(hy:Rnd R0.rA R0.rB R0.rP 32 y):Qp Try.prog 0 X8 (some y):=JA rfl (by kernel_rfl) (by kernel_rfl) Qr hy
structure QM where(n2 i2 n0:Int)(l bi bs:List (Int))
def J0:Pt QM where
 own:=[]
 t:=⟨[(0,.c (.clo 1000000 [])),(1,.c (.ptr 5 0)),(22,.c (.it .i64)),(23,.c (.it .i64)),(2000005,.c (.ptr 2 0)),(2000006,.c (.ptr 3 0)),(2000007,.c (.ptr 4 0)),(3000000,.c (.fn 0))],[.st [.junk,.junk] 1 0,.st [.junk,.junk] 1 0,.st [.fn 38] 1 0,.st [.it .i64] 1 0,.st [.arr (.int .u8)] 1 0,.st [.arr (.int .u8),.arr (.int .u8)] 1 0]⟩
 to:=λv=>⟨v.1.2.2.1,v.1.2.2.2.1,v.2.2.2.2.1.1,v.2.2.2.2.2.1.1,v.2.2.2.2.2.2.1.1,v.2.2.2.2.2.2.1.2.1⟩
 fr:=λx=>(((),((),(x.n2,(x.i2,((),((),((),((),())))))))),(((),((),())),(((),((),())),(((),()),((x.n0,()),((x.l,()),((x.bi,(x.bs,())),())))))))
structure Qt where(n0:Int)(l bi bs:List (Int))
def X4:Pt Qt where
 own:=[]
 t:=⟨[(2000005,.c (.ptr 2 0)),(2000006,.c (.ptr 3 0)),(2000007,.c (.ptr 4 0)),(3000000,.c (.fn 0))],[.st [.junk,.junk] 1 0,.st [.junk,.junk] 1 0,.st [.fn 38] 1 0,.st [.it .i64] 1 0,.st [.arr (.int .u8)] 1 0,.st [.arr (.int .u8),.arr (.int .u8)] 1 0]⟩
 to:=λv=>⟨v.2.2.2.2.1.1,v.2.2.2.2.2.1.1,v.2.2.2.2.2.2.1.1,v.2.2.2.2.2.2.1.2.1⟩
 fr:=λx=>(((),((),((),((),())))),(((),((),())),(((),((),())),(((),()),((x.n0,()),((x.l,()),((x.bi,(x.bs,())),())))))))
def QK(x:QM):Option (QM⊕Qt):=bif decide (x.i2<x.n2) then bif inR x.i2 x.bs.length then Q1 (sb0 { i:=IntKind.i64.wrap ((↑x.bi.length:Int)+x.i2),v:=x.bs[x.i2.toNat]?.getD 0,n0:=x.n0,l:=x.l,bi:=x.bi,bs:=x.bs }) λy=>some (Sum.inl { n2:=x.n2,i2:=IntKind.i64.wrap (x.i2+1),n0:=y.n0,l:=y.l,bi:=y.bi,bs:=y.bs }) else none
else some (Sum.inr { n0:=x.n0,l:=x.l,bi:=x.bi,bs:=x.bs })
theorem JU(x:QM):exec X8 39 (C50.Q2 1) 2 (J0.R x) (J0.H x) (J4 0 J0 (.exit 2) X4)=QK x:=by kernel_rfl
def JY:QB:=J5 0 J0 (.exit 2) X4 QK
theorem XW:QA (C50.Q2 1) 2=[]:=by kernel_rfl
theorem JX{y:YI}(hy:Rnd R0.rA R0.rB R0.rP 32 y):QH Try.prog 39 none 0 (C50.Q2 1) JY (some y):=QQ mixed (Q7 Q9 Q6 _) (by trivial) (λ_=>rfl) (λ_=>rfl) (XW▸Q8.nil) JU (hyk:=Zb hy)
def X9:Env:=⟨ty,QJ cl,JB [(1,JY)],some (R0.rP,ub0)⟩
theorem Zc{y:YI}(hy:Rnd R0.rA R0.rB R0.rP 32 y):Qp Try.prog 0 X9 (some y):=JA rfl (by kernel_rfl) (by kernel_rfl) Qr hy
structure QN where(n i n0:Int)(l bi bs:List (Int))
def J1:Pt QN where
 own:=[]
 t:=⟨[(0,.c (.clo 1000000 [])),(1,.c (.ptr 5 0)),(7,.c (.it .i64)),(8,.c (.it .i64)),(2000005,.c (.ptr 2 0)),(2000006,.c (.ptr 3 0)),(2000007,.c (.ptr 4 0)),(3000000,.c (.fn 0))],[.st [.junk,.junk] 1 0,.st [.junk,.junk] 1 0,.st [.fn 38] 1 0,.st [.it .i64] 1 0,.st [.arr (.int .u8)] 1 0,.st [.arr (.int .u8),.arr (.int .u8)] 1 0]⟩
 to:=λv=>⟨v.1.2.2.1,v.1.2.2.2.1,v.2.2.2.2.1.1,v.2.2.2.2.2.1.1,v.2.2.2.2.2.2.1.1,v.2.2.2.2.2.2.1.2.1⟩
 fr:=λx=>(((),((),(x.n,(x.i,((),((),((),((),())))))))),(((),((),())),(((),((),())),(((),()),((x.n0,()),((x.l,()),((x.bi,(x.bs,())),())))))))
structure Qu where(n0:Int)(l bi bs:List (Int))
def X5:Pt Qu where
 own:=[]
 t:=⟨[(0,.c (.clo 1000000 [])),(1,.c (.ptr 5 0)),(2000005,.c (.ptr 2 0)),(2000006,.c (.ptr 3 0)),(2000007,.c (.ptr 4 0)),(3000000,.c (.fn 0))],[.st [.junk,.junk] 1 0,.st [.junk,.junk] 1 0,.st [.fn 38] 1 0,.st [.it .i64] 1 0,.st [.arr (.int .u8)] 1 0,.st [.arr (.int .u8),.arr (.int .u8)] 1 0]⟩
 to:=λv=>⟨v.2.2.2.2.1.1,v.2.2.2.2.2.1.1,v.2.2.2.2.2.2.1.1,v.2.2.2.2.2.2.1.2.1⟩
 fr:=λx=>(((),((),((),((),((),((),())))))),(((),((),())),(((),((),())),(((),()),((x.n0,()),((x.l,()),((x.bi,(x.bs,())),())))))))
def QL(x:QN):Option (QN⊕Qu):=bif decide (x.i<x.n) then bif inR x.i x.bi.length then Q1 (sb0 { i:=x.i,v:=x.bi[x.i.toNat]?.getD 0,n0:=x.n0,l:=x.l,bi:=x.bi,bs:=x.bs }) λy=>some (Sum.inl { n:=x.n,i:=IntKind.i64.wrap (x.i+1),n0:=y.n0,l:=y.l,bi:=y.bi,bs:=y.bs }) else none
else some (Sum.inr { n0:=x.n0,l:=x.l,bi:=x.bi,bs:=x.bs })
theorem JW(x:QN):exec X9 39 (C50.Q2 0) 1 (J1.R x) (J1.H x) (J4 0 J1 (.exit 0) X5)=QL x:=by kernel_rfl
def X6:QB:=J5 0 J1 (.exit 0) X5 QL
theorem XX:QA (C50.Q2 0) 1=[]:=by kernel_rfl
theorem JZ{y:YI}(hy:Rnd R0.rA R0.rB R0.rP 32 y):QH Try.prog 39 none 0 (C50.Q2 0) X6 (some y):=QQ mixed (Q7 Q9 Q6 _) (by trivial) (λ_=>rfl) (λ_=>rfl) (XX▸Q8.nil) JW (hyk:=Zc hy)
def XA:Env:=⟨ty,QJ cl,JB [(0,X6),(1,JY)],some (R0.rP,ub0)⟩
theorem Zd{y:YI}(hy:Rnd R0.rA R0.rB R0.rP 32 y):Qp Try.prog 0 XA (some y):=JA rfl (by kernel_rfl) (by kernel_rfl) Qr hy
structure p0X where(n0:Int)(l bi bs:List (Int))
def p0:Pt p0X where
 own:=[]
 t:=⟨[(5,.c (.ptr 2 0)),(6,.c (.ptr 3 0)),(7,.c (.ptr 4 0)),(17,.c (.clo 50 [⟨5,0,0⟩]))],[.st [.junk,.junk] 1 0,.st [.junk,.junk] 1 0,.st [.fn 38] 1 0,.st [.it .i64] 1 0,.st [.arr (.int .u8)] 1 0,.st [.arr (.int .u8),.arr (.int .u8)] 1 0]⟩
 to:=λv=>⟨v.2.2.2.2.1.1,v.2.2.2.2.2.1.1,v.2.2.2.2.2.2.1.1,v.2.2.2.2.2.2.1.2.1⟩
 fr:=λx=>(((),((),((),((),())))),(((),((),())),(((),((),())),(((),()),((x.n0,()),((x.l,()),((x.bi,(x.bs,())),())))))))
structure q0X where(n0:Int)(l bi bs:List (Int))
def q0:Pt q0X where
 own:=[]
 t:=⟨[(5,.c (.ptr 2 0)),(6,.c (.ptr 3 0)),(7,.c (.ptr 4 0))],[.st [.junk,.junk] 1 0,.st [.junk,.junk] 1 0,.st [.fn 38] 1 0,.st [.it .i64] 1 0,.st [.arr (.int .u8)] 1 0,.st [.arr (.int .u8),.arr (.int .u8)] 1 0]⟩
 to:=λv=>⟨v.2.2.2.2.1.1,v.2.2.2.2.2.1.1,v.2.2.2.2.2.2.1.1,v.2.2.2.2.2.2.1.2.1⟩
 fr:=λx=>(((),((),((),()))),(((),((),())),(((),((),())),(((),()),((x.n0,()),((x.l,()),((x.bi,(x.bs,())),())))))))
def s0(x:p0X):Option q0X:=Q1 (iter QL ⟨(↑x.bi.length:Int),0,x.n0,x.l,x.bi,x.bs⟩) λy=>Q1 (iter QK ⟨(↑y.bs.length:Int),0,y.n0,y.l,y.bi,y.bs⟩) λy=>some ⟨y.n0,y.l,y.bi,y.bs⟩
theorem Qd(x:p0X):ZA XA 39 C50 50 R0.rF (p0.R x) (p0.H x) (Xz (Zy 0 q0))=s0 x:=by kernel_rfl
def l0:QB:=mkUnit 0 p0 q0 s0
theorem ti0:QA C50 0=[(0,C50.Q2 0),(1,C50.Q2 1)]:=by kernel_rfl
theorem Qe:Z3 Try.prog 32 0 R0.rF R0.rP R0.rA R0.rB l0:=Zh mixed (Q7 Q9 Q6 _) (λhy=>Zd hy) s50 (by kernel_rfl) (λhy=>ti0▸(Q8.cons rfl (JZ hy) (Q8.cons rfl (JX hy) Q8.nil))) (λ_=>rfl) (λ_=>rfl) Qd
def E0:Env:=⟨ty,QJ cl,JB [(0,l0)],none⟩
theorem ur:Kn C37 0=[(0,R0)]:=by kernel_rfl
def m(x:gX):Option fY:=Q1 (M33.m ⟨x.ai,x.as_,x.bi,x.bs⟩) λy=>bif y !=0 then some (-1) else Q1 (M35.m ⟨x.bi,x.bs⟩) λy=>Q1 (M36.m ⟨x.ai,x.as_⟩) λy_1=>Q1 (s0 ⟨0,y,y_1.1,y_1.2⟩) λy=>some y.n0
theorem QW(x:gX):exec E0 32 C37 0 (QX 0 (g.A x)) (g.H x) (finish 0 ty [.cell 6 3] f)=m x:=by kernel_rfl
theorem tl:QA C37 0=[]:=by kernel_rfl
theorem known:QV Try.prog 37 g f m:=
 QD mixed (Q7 Q9 Q6 _) s37 rfl rfl tl Q8.nil (λ_ _=>⟨rfl,rfl⟩) (λ_ _=>⟨rfl,rfl⟩) QW (hg:=Jx.of rfl (ur▸(Zs.cons rfl (by kernel_rfl) Qe Zs.nil)))
def con:Con:=XI g f m default
theorem Q5:Qk Try.prog 37 con:=Qa known (λ_=>rfl) rfl
end M37c
namespace M37d
structure gX where(ai as_ bi bs:List (Int))
def g:Sg gX:=⟨[.agg [.arr (.int .u8),.arr (.int .u8)],.agg [.arr (.int .u8),.arr (.int .u8)],.c (.fn 39)],[],λa b=>⟨a.1.1,a.1.2.1,a.2.1.1,a.2.1.2.1⟩,λx=>((x.ai,(x.as_,())),((x.bi,(x.bs,())),((),()))),λx=>()⟩
abbrev fY:=Int
def f:Ft fY:=⟨none,.c (.it .i64),[],λa b=>(a),λy=>y,λy=>()⟩
def cl:List (FuncId×Con):=[(33,M33.con),(35,M35.con),(36,M36.con),(39,M39.con)]
theorem Q6:QT Try.prog cl:=⟨M33.Q5,M35.Q5,M36.Q5,M39.Q5,trivial⟩
def R0:CC:=C37.Zf 0
def Xl:Env:=⟨ty,QJ cl,λ_=>none,none⟩
structure Kf where(i v n0:Int)(l bi bs:List (Int))
def bp0:Pt Kf where
 own:=[]
 t:=⟨[(5,.c (.ptr 2 0)),(6,.c (.ptr 3 0)),(7,.c (.ptr 4 0)),(18,.c (.it .i64)),(19,.c (.ip (.int .u8) 0)),(1000000,.c (.clo 1000000 [])),(1000001,.c (.ptr 5 0)),(2000005,.c (.ptr 2 0)),(2000006,.c (.ptr 3 0)),(2000007,.c (.ptr 4 0))],[.st [.junk,.junk] 1 0,.st [.junk,.junk] 1 0,.st [.fn 39] 1 0,.st [.it .i64] 1 0,.st [.arr (.int .u8)] 1 0,.st [.arr (.int .u8),.arr (.int .u8)] 1 0]⟩
 to:=λv=>⟨v.1.2.2.2.1,v.1.2.2.2.2.1,v.2.2.2.2.1.1,v.2.2.2.2.2.1.1,v.2.2.2.2.2.2.1.1,v.2.2.2.2.2.2.1.2.1⟩
 fr:=λx=>(((),((),((),(x.i,(x.v,((),((),((),((),((),())))))))))),(((),((),())),(((),((),())),(((),()),((x.n0,()),((x.l,()),((x.bi,(x.bs,())),())))))))
structure UT where(n0:Int)(l bi bs:List (Int))
def bq0:Pt UT where
 own:=[]
 t:=⟨[(1000000,.c (.clo 1000000 [])),(1000001,.c (.ptr 5 0)),(2000005,.c (.ptr 2 0)),(2000006,.c (.ptr 3 0)),(2000007,.c (.ptr 4 0))],[.st [.junk,.junk] 1 0,.st [.junk,.junk] 1 0,.st [.fn 39] 1 0,.st [.it .i64] 1 0,.st [.arr (.int .u8)] 1 0,.st [.arr (.int .u8),.arr (.int .u8)] 1 0]⟩
 to:=λv=>⟨v.2.2.2.2.1.1,v.2.2.2.2.2.1.1,v.2.2.2.2.2.2.1.1,v.2.2.2.2.2.2.1.2.1⟩
 fr:=λx=>(((),((),((),((),((),()))))),(((),((),())),(((),((),())),(((),()),((x.n0,()),((x.l,()),((x.bi,(x.bs,())),())))))))
def sb0(x:Kf):Option UT:=bif inR x.i x.l.length then Q1 (M39.m { x:=x.v,y:=x.l[x.i.toNat]?.getD 0 }) λy=>bif y then some { n0:=IntKind.i64.wrap (x.n0+1),l:=x.l,bi:=x.bi,bs:=x.bs } else some { n0:=x.n0,l:=x.l,bi:=x.bi,bs:=x.bs }
else none
theorem U5(x:Kf):JE Xl 32 R0.rA R0.rB (bp0.R x) (bp0.H x) (Zy 0 bq0)=sb0 x:=by kernel_rfl
def ub0:QB:=mkUnit 0 bp0 bq0 sb0
theorem ta0:QA R0.rA 0=[]:=by kernel_rfl
theorem tb0:QA R0.rB R0.rA.nl=[]:=by kernel_rfl
theorem Qr{y:YI}(hy:Rnd R0.rA R0.rB R0.rP 32 y):J2 Try.prog 32 0 y.assign y.body ub0:=Jk mixed (Q7 Q9 Q6 _) rfl ⟨by kernel_rfl,by kernel_rfl⟩ (λ_=>rfl) (λ_=>rfl) (λ_=>ta0▸Q8.nil) (λl=>tb0▸Q8.nil) U5 hy
def X8:Env:=⟨ty,QJ cl,λ_=>none,some (R0.rP,ub0)⟩
theorem Zb{y:YI}(hy:Rnd R0.rA R0.rB R0.rP 32 y):Qp Try.prog 0 X8 (some y):=JA rfl (by kernel_rfl) (by kernel_rfl) Qr hy
structure QM where(n2 i2 n0:Int)(l bi bs:List (Int))
def J0:Pt QM where
 own:=[]
 t:=⟨[(0,.c (.clo 1000000 [])),(1,.c (.ptr 5 0)),(22,.c (.it .i64)),(23,.c (.it .i64)),(2000005,.c (.ptr 2 0)),(2000006,.c (.ptr 3 0)),(2000007,.c (.ptr 4 0)),(3000000,.c (.fn 0))],[.st [.junk,.junk] 1 0,.st [.junk,.junk] 1 0,.st [.fn 39] 1 0,.st [.it .i64] 1 0,.st [.arr (.int .u8)] 1 0,.st [.arr (.int .u8),.arr (.int .u8)] 1 0]⟩
 to:=λv=>⟨v.1.2.2.1,v.1.2.2.2.1,v.2.2.2.2.1.1,v.2.2.2.2.2.1.1,v.2.2.2.2.2.2.1.1,v.2.2.2.2.2.2.1.2.1⟩
 fr:=λx=>(((),((),(x.n2,(x.i2,((),((),((),((),())))))))),(((),((),())),(((),((),())),(((),()),((x.n0,()),((x.l,()),((x.bi,(x.bs,())),())))))))
structure Qt where(n0:Int)(l bi bs:List (Int))
def X4:Pt Qt where
 own:=[]
 t:=⟨[(2000005,.c (.ptr 2 0)),(2000006,.c (.ptr 3 0)),(2000007,.c (.ptr 4 0)),(3000000,.c (.fn 0))],[.st [.junk,.junk] 1 0,.st [.junk,.junk] 1 0,.st [.fn 39] 1 0,.st [.it .i64] 1 0,.st [.arr (.int .u8)] 1 0,.st [.arr (.int .u8),.arr (.int .u8)] 1 0]⟩
 to:=λv=>⟨v.2.2.2.2.1.1,v.2.2.2.2.2.1.1,v.2.2.2.2.2.2.1.1,v.2.2.2.2.2.2.1.2.1⟩
 fr:=λx=>(((),((),((),((),())))),(((),((),())),(((),((),())),(((),()),((x.n0,()),((x.l,()),((x.bi,(x.bs,())),())))))))
def QK(x:QM):Option (QM⊕Qt):=bif decide (x.i2<x.n2) then bif inR x.i2 x.bs.length then Q1 (sb0 { i:=IntKind.i64.wrap ((↑x.bi.length:Int)+x.i2),v:=x.bs[x.i2.toNat]?.getD 0,n0:=x.n0,l:=x.l,bi:=x.bi,bs:=x.bs }) λy=>some (Sum.inl { n2:=x.n2,i2:=IntKind.i64.wrap (x.i2+1),n0:=y.n0,l:=y.l,bi:=y.bi,bs:=y.bs }) else none
else some (Sum.inr { n0:=x.n0,l:=x.l,bi:=x.bi,bs:=x.bs })
theorem JU(x:QM):exec X8 39 (C50.Q2 1) 2 (J0.R x) (J0.H x) (J4 0 J0 (.exit 2) X4)=QK x:=by kernel_rfl
def JY:QB:=J5 0 J0 (.exit 2) X4 QK
theorem XW:QA (C50.Q2 1) 2=[]:=by kernel_rfl
theorem JX{y:YI}(hy:Rnd R0.rA R0.rB R0.rP 32 y):QH Try.prog 39 none 0 (C50.Q2 1) JY (some y):=QQ mixed (Q7 Q9 Q6 _) (by trivial) (λ_=>rfl) (λ_=>rfl) (XW▸Q8.nil) JU (hyk:=Zb hy)
def X9:Env:=⟨ty,QJ cl,JB [(1,JY)],some (R0.rP,ub0)⟩
theorem Zc{y:YI}(hy:Rnd R0.rA R0.rB R0.rP 32 y):Qp Try.prog 0 X9 (some y):=JA rfl (by kernel_rfl) (by kernel_rfl) Qr hy
structure QN where(n i n0:Int)(l bi bs:List (Int))
def J1:Pt QN where
 own:=[]
 t:=⟨[(0,.c (.clo 1000000 [])),(1,.c (.ptr 5 0)),(7,.c (.it .i64)),(8,.c (.it .i64)),(2000005,.c (.ptr 2 0)),(2000006,.c (.ptr 3 0)),(2000007,.c (.ptr 4 0)),(3000000,.c (.fn 0))],[.st [.junk,.junk] 1 0,.st [.junk,.junk] 1 0,.st [.fn 39] 1 0,.st [.it .i64] 1 0,.st [.arr (.int .u8)] 1 0,.st [.arr (.int .u8),.arr (.int .u8)] 1 0]⟩
 to:=λv=>⟨v.1.2.2.1,v.1.2.2.2.1,v.2.2.2.2.1.1,v.2.2.2.2.2.1.1,v.2.2.2.2.2.2.1.1,v.2.2.2.2.2.2.1.2.1⟩
 fr:=λx=>(((),((),(x.n,(x.i,((),((),((),((),())))))))),(((),((),())),(((),((),())),(((),()),((x.n0,()),((x.l,()),((x.bi,(x.bs,())),())))))))
structure Qu where(n0:Int)(l bi bs:List (Int))
def X5:Pt Qu where
 own:=[]
 t:=⟨[(0,.c (.clo 1000000 [])),(1,.c (.ptr 5 0)),(2000005,.c (.ptr 2 0)),(2000006,.c (.ptr 3 0)),(2000007,.c (.ptr 4 0)),(3000000,.c (.fn 0))],[.st [.junk,.junk] 1 0,.st [.junk,.junk] 1 0,.st [.fn 39] 1 0,.st [.it .i64] 1 0,.st [.arr (.int .u8)] 1 0,.st [.arr (.int .u8),.arr (.int .u8)] 1 0]⟩
 to:=λv=>⟨v.2.2.2.2.1.1,v.2.2.2.2.2.1.1,v.2.2.2.2.2.2.1.1,v.2.2.2.2.2.2.1.2.1⟩
 fr:=λx=>(((),((),((),((),((),((),())))))),(((),((),())),(((),((),())),(((),()),((x.n0,()),((x.l,()),((x.bi,(x.bs,())),())))))))
def QL(x:QN):Option (QN⊕Qu):=bif decide (x.i<x.n) then bif inR x.i x.bi.length then Q1 (sb0 { i:=x.i,v:=x.bi[x.i.toNat]?.getD 0,n0:=x.n0,l:=x.l,bi:=x.bi,bs:=x.bs }) λy=>some (Sum.inl { n:=x.n,i:=IntKind.i64.wrap (x.i+1),n0:=y.n0,l:=y.l,bi:=y.bi,bs:=y.bs }) else none
else some (Sum.inr { n0:=x.n0,l:=x.l,bi:=x.bi,bs:=x.bs })
theorem JW(x:QN):exec X9 39 (C50.Q2 0) 1 (J1.R x) (J1.H x) (J4 0 J1 (.exit 0) X5)=QL x:=by kernel_rfl
def X6:QB:=J5 0 J1 (.exit 0) X5 QL
theorem XX:QA (C50.Q2 0) 1=[]:=by kernel_rfl
theorem JZ{y:YI}(hy:Rnd R0.rA R0.rB R0.rP 32 y):QH Try.prog 39 none 0 (C50.Q2 0) X6 (some y):=QQ mixed (Q7 Q9 Q6 _) (by trivial) (λ_=>rfl) (λ_=>rfl) (XX▸Q8.nil) JW (hyk:=Zc hy)
def XA:Env:=⟨ty,QJ cl,JB [(0,X6),(1,JY)],some (R0.rP,ub0)⟩
theorem Zd{y:YI}(hy:Rnd R0.rA R0.rB R0.rP 32 y):Qp Try.prog 0 XA (some y):=JA rfl (by kernel_rfl) (by kernel_rfl) Qr hy
structure p0X where(n0:Int)(l bi bs:List (Int))
def p0:Pt p0X where
 own:=[]
 t:=⟨[(5,.c (.ptr 2 0)),(6,.c (.ptr 3 0)),(7,.c (.ptr 4 0)),(17,.c (.clo 50 [⟨5,0,0⟩]))],[.st [.junk,.junk] 1 0,.st [.junk,.junk] 1 0,.st [.fn 39] 1 0,.st [.it .i64] 1 0,.st [.arr (.int .u8)] 1 0,.st [.arr (.int .u8),.arr (.int .u8)] 1 0]⟩
 to:=λv=>⟨v.2.2.2.2.1.1,v.2.2.2.2.2.1.1,v.2.2.2.2.2.2.1.1,v.2.2.2.2.2.2.1.2.1⟩
 fr:=λx=>(((),((),((),((),())))),(((),((),())),(((),((),())),(((),()),((x.n0,()),((x.l,()),((x.bi,(x.bs,())),())))))))
structure q0X where(n0:Int)(l bi bs:List (Int))
def q0:Pt q0X where
 own:=[]
 t:=⟨[(5,.c (.ptr 2 0)),(6,.c (.ptr 3 0)),(7,.c (.ptr 4 0))],[.st [.junk,.junk] 1 0,.st [.junk,.junk] 1 0,.st [.fn 39] 1 0,.st [.it .i64] 1 0,.st [.arr (.int .u8)] 1 0,.st [.arr (.int .u8),.arr (.int .u8)] 1 0]⟩
 to:=λv=>⟨v.2.2.2.2.1.1,v.2.2.2.2.2.1.1,v.2.2.2.2.2.2.1.1,v.2.2.2.2.2.2.1.2.1⟩
 fr:=λx=>(((),((),((),()))),(((),((),())),(((),((),())),(((),()),((x.n0,()),((x.l,()),((x.bi,(x.bs,())),())))))))
def s0(x:p0X):Option q0X:=Q1 (iter QL ⟨(↑x.bi.length:Int),0,x.n0,x.l,x.bi,x.bs⟩) λy=>Q1 (iter QK ⟨(↑y.bs.length:Int),0,y.n0,y.l,y.bi,y.bs⟩) λy=>some ⟨y.n0,y.l,y.bi,y.bs⟩
theorem Qd(x:p0X):ZA XA 39 C50 50 R0.rF (p0.R x) (p0.H x) (Xz (Zy 0 q0))=s0 x:=by kernel_rfl
def l0:QB:=mkUnit 0 p0 q0 s0
theorem ti0:QA C50 0=[(0,C50.Q2 0),(1,C50.Q2 1)]:=by kernel_rfl
theorem Qe:Z3 Try.prog 32 0 R0.rF R0.rP R0.rA R0.rB l0:=Zh mixed (Q7 Q9 Q6 _) (λhy=>Zd hy) s50 (by kernel_rfl) (λhy=>ti0▸(Q8.cons rfl (JZ hy) (Q8.cons rfl (JX hy) Q8.nil))) (λ_=>rfl) (λ_=>rfl) Qd
def E0:Env:=⟨ty,QJ cl,JB [(0,l0)],none⟩
theorem ur:Kn C37 0=[(0,R0)]:=by kernel_rfl
def m(x:gX):Option fY:=Q1 (M33.m ⟨x.ai,x.as_,x.bi,x.bs⟩) λy=>bif y !=0 then some (-1) else Q1 (M35.m ⟨x.bi,x.bs⟩) λy=>Q1 (M36.m ⟨x.ai,x.as_⟩) λy_1=>Q1 (s0 ⟨0,y,y_1.1,y_1.2⟩) λy=>some y.n0
theorem QW(x:gX):exec E0 32 C37 0 (QX 0 (g.A x)) (g.H x) (finish 0 ty [.cell 6 3] f)=m x:=by kernel_rfl
theorem tl:QA C37 0=[]:=by kernel_rfl
theorem known:QV Try.prog 37 g f m:=
 QD mixed (Q7 Q9 Q6 _) s37 rfl rfl tl Q8.nil (λ_ _=>⟨rfl,rfl⟩) (λ_ _=>⟨rfl,rfl⟩) QW (hg:=Jx.of rfl (ur▸(Zs.cons rfl (by kernel_rfl) Qe Zs.nil)))
def con:Con:=XI g f m default
theorem Q5:Qk Try.prog 37 con:=Qa known (λ_=>rfl) rfl
end M37d
namespace M18
structure gX where(ai as_ bi bs:List (Int))
def g:Sg gX:=⟨[.agg [.arr (.int .u8),.arr (.int .u8)],.agg [.arr (.int .u8),.arr (.int .u8)]],[],λa b=>⟨a.1.1,a.1.2.1,a.2.1.1,a.2.1.2.1⟩,λx=>((x.ai,(x.as_,())),((x.bi,(x.bs,())),())),λx=>()⟩
abbrev fY:=Int
def f:Ft fY:=⟨none,.c (.it .i64),[],λa b=>(a),λy=>y,λy=>()⟩
def cl:List (FuncId×Con):=[(37,M37d.con)]
theorem Q6:QT Try.prog cl:=⟨M37d.Q5,trivial⟩
def E0:Env:=⟨ty,QJ cl,λ_=>none,none⟩
def m(x:gX):Option fY:=Q1 (M37d.m ⟨x.ai,x.as_,x.bi,x.bs⟩) λy=>some y
theorem QW(x:gX):exec E0 8 C18 0 (QX 0 (g.A x)) (g.H x) (finish 0 ty [.tmp 4] f)=m x:=by kernel_rfl
theorem tl:QA C18 0=[]:=by kernel_rfl
theorem known:QV Try.prog 18 g f m:=
 QD mixed (Q7 Q9 Q6 _) s18 rfl rfl tl Q8.nil (λ_ _=>⟨rfl,rfl⟩) (λ_ _=>⟨rfl,rfl⟩) QW
def con:Con:=XI g f m default
theorem Q5:Qk Try.prog 18 con:=Qa known (λ_=>rfl) rfl
end M18
namespace M16
structure gX where(ai as_ bi bs:List (Int))
def g:Sg gX:=⟨[.agg [.arr (.int .u8),.arr (.int .u8)],.agg [.arr (.int .u8),.arr (.int .u8)]],[],λa b=>⟨a.1.1,a.1.2.1,a.2.1.1,a.2.1.2.1⟩,λx=>((x.ai,(x.as_,())),((x.bi,(x.bs,())),())),λx=>()⟩
abbrev fY:=Bool
def f:Ft fY:=⟨none,.c (.bo),[],λa b=>(a),λy=>y,λy=>()⟩
def cl:List (FuncId×Con):=[(18,M18.con)]
theorem Q6:QT Try.prog cl:=⟨M18.Q5,trivial⟩
def E0:Env:=⟨ty,QJ cl,λ_=>none,none⟩
def m(x:gX):Option fY:=Q1 (M18.m ⟨x.ai,x.as_,x.bi,x.bs⟩) λy=>some (y==0)
theorem QW(x:gX):exec E0 9 C16 0 (QX 0 (g.A x)) (g.H x) (finish 0 ty [.tmp 4] f)=m x:=by kernel_rfl
theorem tl:QA C16 0=[]:=by kernel_rfl
theorem known:QV Try.prog 16 g f m:=
 QD mixed (Q7 Q9 Q6 _) s16 rfl rfl tl Q8.nil (λ_ _=>⟨rfl,rfl⟩) (λ_ _=>⟨rfl,rfl⟩) QW
def con:Con:=XI g f m default
theorem Q5:Qk Try.prog 16 con:=Qa known (λ_=>rfl) rfl
end M16
namespace M17
structure gX where(ai as_ bi bs:List (Int))
def g:Sg gX:=⟨[.agg [.arr (.int .u8),.arr (.int .u8)],.agg [.arr (.int .u8),.arr (.int .u8)]],[],λa b=>⟨a.1.1,a.1.2.1,a.2.1.1,a.2.1.2.1⟩,λx=>((x.ai,(x.as_,())),((x.bi,(x.bs,())),())),λx=>()⟩
abbrev fY:=Bool
def f:Ft fY:=⟨none,.c (.bo),[],λa b=>(a),λy=>y,λy=>()⟩
def cl:List (FuncId×Con):=[(37,M37c.con)]
theorem Q6:QT Try.prog cl:=⟨M37c.Q5,trivial⟩
def E0:Env:=⟨ty,QJ cl,λ_=>none,none⟩
def m(x:gX):Option fY:=Q1 (M37c.m ⟨x.ai,x.as_,x.bi,x.bs⟩) λy=>some (y==0)
theorem QW(x:gX):exec E0 9 C17 0 (QX 0 (g.A x)) (g.H x) (finish 0 ty [.tmp 4] f)=m x:=by kernel_rfl
theorem tl:QA C17 0=[]:=by kernel_rfl
theorem known:QV Try.prog 17 g f m:=
 QD mixed (Q7 Q9 Q6 _) s17 rfl rfl tl Q8.nil (λ_ _=>⟨rfl,rfl⟩) (λ_ _=>⟨rfl,rfl⟩) QW
def con:Con:=XI g f m default
theorem Q5:Qk Try.prog 17 con:=Qa known (λ_=>rfl) rfl
end M17
namespace M13
structure gX where(ai as_ bi bs:List (Int))
def g:Sg gX:=⟨[.agg [.arr (.int .u8),.arr (.int .u8)],.agg [.arr (.int .u8),.arr (.int .u8)]],[],λa b=>⟨a.1.1,a.1.2.1,a.2.1.1,a.2.1.2.1⟩,λx=>((x.ai,(x.as_,())),((x.bi,(x.bs,())),())),λx=>()⟩
abbrev fY:=List (Int)×List (Int)×Int
def f:Ft fY:=⟨none,.tup [.inr [.arr (.int .u8),.arr (.int .u8)],.inl (.it .i64)],[],λa b=>(a.1.1,a.1.2.1,a.2.1),λy=>((y.1,(y.2.1,())),(y.2.2,())),λy=>()⟩
def cl:List (FuncId×Con):=[(33,M33.con),(16,M16.con),(34,M34.con),(35,M35.con),(36,M36o.con)]
theorem Q6:QT Try.prog cl:=⟨M33.Q5,M16.Q5,M34.Q5,M35.Q5,M36o.Q5,trivial⟩
def R0:CC:=C13.Zf 0
def Xl:Env:=⟨ty,QJ cl,λ_=>none,none⟩
structure XT where(i:Int)(v:Nat)(xs ys:List (Int))(oi_lo oi_len oi_cap os_lo os_len os_cap:Nat)(l:List (Int))(bi_lo bi_len bi_cap bs_lo bs_len bs_cap:Nat)
def Ke:Pt XT where
 own:=[]
 t:=⟨[(4,.c (.ptr 2 0)),(7,.c (.ptr 5 0)),(8,.c (.ptr 6 0)),(29,.c (.it .i64)),(30,.c (.el 3 0 1 0)),(1000000,.c (.clo 1000000 [])),(1000001,.c (.ptr 9 0)),(2000004,.c (.ptr 2 0)),(2000007,.c (.ptr 5 0)),(2000008,.c (.ptr 6 0))],[.st [.junk,.junk] 1 0,.st [.junk,.junk] 1 0,.st [.junk,.junk] 1 0,.arr (.int .u8) 0,.arr (.int .u8) 0,.st [.slc 3 0 1,.slc 4 0 1] 1 0,.st [.arr (.int .u8)] 1 0,.st [.junk] 1 0,.st [.junk] 1 0,.st [.slc 3 0 1,.slc 4 0 1] 1 0]⟩
 to:=λv=>⟨v.1.2.2.2.1,v.1.2.2.2.2.1,v.2.2.2.2.1,v.2.2.2.2.2.1,v.2.2.2.2.2.2.1.1.1,v.2.2.2.2.2.2.1.1.2.1,v.2.2.2.2.2.2.1.1.2.2,v.2.2.2.2.2.2.1.2.1.1,v.2.2.2.2.2.2.1.2.1.2.1,v.2.2.2.2.2.2.1.2.1.2.2,v.2.2.2.2.2.2.2.1.1,v.2.2.2.2.2.2.2.2.2.2.1.1.1,v.2.2.2.2.2.2.2.2.2.2.1.1.2.1,v.2.2.2.2.2.2.2.2.2.2.1.1.2.2,v.2.2.2.2.2.2.2.2.2.2.1.2.1.1,v.2.2.2.2.2.2.2.2.2.2.1.2.1.2.1,v.2.2.2.2.2.2.2.2.2.2.1.2.1.2.2⟩
 fr:=λx=>(((),((),((),(x.i,(x.v,((),((),((),((),((),())))))))))),(((),((),())),(((),((),())),(((),((),())),(x.xs,(x.ys,(((x.oi_lo,x.oi_len,x.oi_cap),((x.os_lo,x.os_len,x.os_cap),())),((x.l,()),(((),()),(((),()),(((x.bi_lo,x.bi_len,x.bi_cap),((x.bs_lo,x.bs_len,x.bs_cap),())),())))))))))))
structure ZG where(xs ys:List (Int))(oi_lo oi_len oi_cap os_lo os_len os_cap:Nat)(l:List (Int))(bi_lo bi_len bi_cap bs_lo bs_len bs_cap:Nat)
def VF:Pt ZG where
 own:=[]
 t:=⟨[(1000000,.c (.clo 1000000 [])),(1000001,.c (.ptr 9 0)),(2000004,.c (.ptr 2 0)),(2000007,.c (.ptr 5 0)),(2000008,.c (.ptr 6 0))],[.st [.junk,.junk] 1 0,.st [.junk,.junk] 1 0,.st [.junk,.junk] 1 0,.arr (.int .u8) 0,.arr (.int .u8) 0,.st [.slc 3 0 1,.slc 4 0 1] 1 0,.st [.arr (.int .u8)] 1 0,.st [.junk] 1 0,.st [.junk] 1 0,.st [.slc 3 0 1,.slc 4 0 1] 1 0]⟩
 to:=λv=>⟨v.2.2.2.2.1,v.2.2.2.2.2.1,v.2.2.2.2.2.2.1.1.1,v.2.2.2.2.2.2.1.1.2.1,v.2.2.2.2.2.2.1.1.2.2,v.2.2.2.2.2.2.1.2.1.1,v.2.2.2.2.2.2.1.2.1.2.1,v.2.2.2.2.2.2.1.2.1.2.2,v.2.2.2.2.2.2.2.1.1,v.2.2.2.2.2.2.2.2.2.2.1.1.1,v.2.2.2.2.2.2.2.2.2.2.1.1.2.1,v.2.2.2.2.2.2.2.2.2.2.1.1.2.2,v.2.2.2.2.2.2.2.2.2.2.1.2.1.1,v.2.2.2.2.2.2.2.2.2.2.1.2.1.2.1,v.2.2.2.2.2.2.2.2.2.2.1.2.1.2.2⟩
 fr:=λx=>(((),((),((),((),((),()))))),(((),((),())),(((),((),())),(((),((),())),(x.xs,(x.ys,(((x.oi_lo,x.oi_len,x.oi_cap),((x.os_lo,x.os_len,x.os_cap),())),((x.l,()),(((),()),(((),()),(((x.bi_lo,x.bi_len,x.bi_cap),((x.bs_lo,x.bs_len,x.bs_cap),())),())))))))))))
def Xo(x:XT):Option ZG:=bif decide (x.v<x.xs.length) then bif inR x.i x.l.length then bif decide (x.v<x.xs.length) then some { xs:=x.xs.set x.v (if x.l[x.i.toNat]?.getD 0<x.xs[x.v]?.getD 0 then x.l[x.i.toNat]?.getD 0 else x.xs[x.v]?.getD 0),ys:=x.ys,oi_lo:=x.oi_lo,oi_len:=x.oi_len,oi_cap:=x.oi_cap,os_lo:=x.os_lo,os_len:=x.os_len,os_cap:=x.os_cap,l:=x.l,bi_lo:=x.bi_lo,bi_len:=x.bi_len,bi_cap:=x.bi_cap,bs_lo:=x.bs_lo,bs_len:=x.bs_len,bs_cap:=x.bs_cap } else none else none
else none
theorem Y9(x:XT):JE Xl 42 R0.rA R0.rB (Ke.R x) (Ke.H x) (Zy 0 VF)=Xo x:=by kernel_rfl
def Ua:QB:=mkUnit 0 Ke VF Xo
theorem ta0a:QA R0.rA 0=[]:=by kernel_rfl
theorem tb0a:QA R0.rB R0.rA.nl=[]:=by kernel_rfl
theorem Y5{y:YI}(hy:Rnd R0.rA R0.rB R0.rP 42 y):J2 Try.prog 42 0 y.assign y.body Ua:=Jk mixed (Q7 Q9 Q6 _) rfl ⟨by kernel_rfl,by kernel_rfl⟩ (λ_=>rfl) (λ_=>rfl) (λ_=>ta0a▸Q8.nil) (λl=>tb0a▸Q8.nil) Y9 hy
structure XS where(i:Int)(v:Nat)(xs ys:List (Int))(oi_lo oi_len oi_cap os_lo os_len os_cap:Nat)(l:List (Int))(bi_lo bi_len bi_cap bs_lo bs_len bs_cap:Nat)
def Kb:Pt XS where
 own:=[]
 t:=⟨[(4,.c (.ptr 2 0)),(7,.c (.ptr 5 0)),(8,.c (.ptr 6 0)),(29,.c (.it .i64)),(30,.c (.el 4 0 1 0)),(1000000,.c (.clo 1000000 [])),(1000001,.c (.ptr 9 0)),(2000004,.c (.ptr 2 0)),(2000007,.c (.ptr 5 0)),(2000008,.c (.ptr 6 0))],[.st [.junk,.junk] 1 0,.st [.junk,.junk] 1 0,.st [.junk,.junk] 1 0,.arr (.int .u8) 0,.arr (.int .u8) 0,.st [.slc 3 0 1,.slc 4 0 1] 1 0,.st [.arr (.int .u8)] 1 0,.st [.junk] 1 0,.st [.junk] 1 0,.st [.slc 3 0 1,.slc 4 0 1] 1 0]⟩
 to:=λv=>⟨v.1.2.2.2.1,v.1.2.2.2.2.1,v.2.2.2.2.1,v.2.2.2.2.2.1,v.2.2.2.2.2.2.1.1.1,v.2.2.2.2.2.2.1.1.2.1,v.2.2.2.2.2.2.1.1.2.2,v.2.2.2.2.2.2.1.2.1.1,v.2.2.2.2.2.2.1.2.1.2.1,v.2.2.2.2.2.2.1.2.1.2.2,v.2.2.2.2.2.2.2.1.1,v.2.2.2.2.2.2.2.2.2.2.1.1.1,v.2.2.2.2.2.2.2.2.2.2.1.1.2.1,v.2.2.2.2.2.2.2.2.2.2.1.1.2.2,v.2.2.2.2.2.2.2.2.2.2.1.2.1.1,v.2.2.2.2.2.2.2.2.2.2.1.2.1.2.1,v.2.2.2.2.2.2.2.2.2.2.1.2.1.2.2⟩
 fr:=λx=>(((),((),((),(x.i,(x.v,((),((),((),((),((),())))))))))),(((),((),())),(((),((),())),(((),((),())),(x.xs,(x.ys,(((x.oi_lo,x.oi_len,x.oi_cap),((x.os_lo,x.os_len,x.os_cap),())),((x.l,()),(((),()),(((),()),(((x.bi_lo,x.bi_len,x.bi_cap),((x.bs_lo,x.bs_len,x.bs_cap),())),())))))))))))
structure ZF where(xs ys:List (Int))(oi_lo oi_len oi_cap os_lo os_len os_cap:Nat)(l:List (Int))(bi_lo bi_len bi_cap bs_lo bs_len bs_cap:Nat)
def VE:Pt ZF where
 own:=[]
 t:=⟨[(1000000,.c (.clo 1000000 [])),(1000001,.c (.ptr 9 0)),(2000004,.c (.ptr 2 0)),(2000007,.c (.ptr 5 0)),(2000008,.c (.ptr 6 0))],[.st [.junk,.junk] 1 0,.st [.junk,.junk] 1 0,.st [.junk,.junk] 1 0,.arr (.int .u8) 0,.arr (.int .u8) 0,.st [.slc 3 0 1,.slc 4 0 1] 1 0,.st [.arr (.int .u8)] 1 0,.st [.junk] 1 0,.st [.junk] 1 0,.st [.slc 3 0 1,.slc 4 0 1] 1 0]⟩
 to:=λv=>⟨v.2.2.2.2.1,v.2.2.2.2.2.1,v.2.2.2.2.2.2.1.1.1,v.2.2.2.2.2.2.1.1.2.1,v.2.2.2.2.2.2.1.1.2.2,v.2.2.2.2.2.2.1.2.1.1,v.2.2.2.2.2.2.1.2.1.2.1,v.2.2.2.2.2.2.1.2.1.2.2,v.2.2.2.2.2.2.2.1.1,v.2.2.2.2.2.2.2.2.2.2.1.1.1,v.2.2.2.2.2.2.2.2.2.2.1.1.2.1,v.2.2.2.2.2.2.2.2.2.2.1.1.2.2,v.2.2.2.2.2.2.2.2.2.2.1.2.1.1,v.2.2.2.2.2.2.2.2.2.2.1.2.1.2.1,v.2.2.2.2.2.2.2.2.2.2.1.2.1.2.2⟩
 fr:=λx=>(((),((),((),((),((),()))))),(((),((),())),(((),((),())),(((),((),())),(x.xs,(x.ys,(((x.oi_lo,x.oi_len,x.oi_cap),((x.os_lo,x.os_len,x.os_cap),())),((x.l,()),(((),()),(((),()),(((x.bi_lo,x.bi_len,x.bi_cap),((x.bs_lo,x.bs_len,x.bs_cap),())),())))))))))))
def Xn(x:XS):Option ZF:=bif decide (x.v<x.ys.length) then bif inR x.i x.l.length then bif decide (x.v<x.ys.length) then some { xs:=x.xs,ys:=x.ys.set x.v (if x.l[x.i.toNat]?.getD 0<x.ys[x.v]?.getD 0 then x.l[x.i.toNat]?.getD 0 else x.ys[x.v]?.getD 0),oi_lo:=x.oi_lo,oi_len:=x.oi_len,oi_cap:=x.oi_cap,os_lo:=x.os_lo,os_len:=x.os_len,os_cap:=x.os_cap,l:=x.l,bi_lo:=x.bi_lo,bi_len:=x.bi_len,bi_cap:=x.bi_cap,bs_lo:=x.bs_lo,bs_len:=x.bs_len,bs_cap:=x.bs_cap } else none else none
else none
theorem Y7(x:XS):JE Xl 42 R0.rA R0.rB (Kb.R x) (Kb.H x) (Zy 0 VE)=Xn x:=by kernel_rfl
def UZ:QB:=mkUnit 0 Kb VE Xn
theorem ta0b:QA R0.rA 0=[]:=by kernel_rfl
theorem tb0b:QA R0.rB R0.rA.nl=[]:=by kernel_rfl
theorem Y4{y:YI}(hy:Rnd R0.rA R0.rB R0.rP 42 y):J2 Try.prog 42 0 y.assign y.body UZ:=Jk mixed (Q7 Q9 Q6 _) rfl ⟨by kernel_rfl,by kernel_rfl⟩ (λ_=>rfl) (λ_=>rfl) (λ_=>ta0b▸Q8.nil) (λl=>tb0b▸Q8.nil) Y7 hy
def ub0:QB:=.alt Ua UZ
theorem Qr{y:YI}(hy:Rnd R0.rA R0.rB R0.rP 42 y):J2 Try.prog 42 0 y.assign y.body ub0:=⟨Y5 hy,Y4 hy⟩
def X8:Env:=⟨ty,QJ cl,λ_=>none,some (R0.rP,ub0)⟩
theorem Zb{y:YI}(hy:Rnd R0.rA R0.rB R0.rP 42 y):Qp Try.prog 0 X8 (some y):=JA rfl (by kernel_rfl) (by kernel_rfl) Qr hy
structure QM where(n2 i2:Int)(xs ys:List (Int))(oi_lo oi_len oi_cap os_lo os_len os_cap:Nat)(l:List (Int))(bi_lo bi_len bi_cap bs_lo bs_len bs_cap:Nat)
def J0:Pt QM where
 own:=[]
 t:=⟨[(0,.c (.clo 1000000 [])),(1,.c (.ptr 9 0)),(22,.c (.it .i64)),(23,.c (.it .i64)),(2000004,.c (.ptr 2 0)),(2000007,.c (.ptr 5 0)),(2000008,.c (.ptr 6 0)),(3000000,.c (.fn 0))],[.st [.junk,.junk] 1 0,.st [.junk,.junk] 1 0,.st [.junk,.junk] 1 0,.arr (.int .u8) 0,.arr (.int .u8) 0,.st [.slc 3 0 1,.slc 4 0 1] 1 0,.st [.arr (.int .u8)] 1 0,.st [.junk] 1 0,.st [.junk] 1 0,.st [.slc 3 0 1,.slc 4 0 1] 1 0]⟩
 to:=λv=>⟨v.1.2.2.1,v.1.2.2.2.1,v.2.2.2.2.1,v.2.2.2.2.2.1,v.2.2.2.2.2.2.1.1.1,v.2.2.2.2.2.2.1.1.2.1,v.2.2.2.2.2.2.1.1.2.2,v.2.2.2.2.2.2.1.2.1.1,v.2.2.2.2.2.2.1.2.1.2.1,v.2.2.2.2.2.2.1.2.1.2.2,v.2.2.2.2.2.2.2.1.1,v.2.2.2.2.2.2.2.2.2.2.1.1.1,v.2.2.2.2.2.2.2.2.2.2.1.1.2.1,v.2.2.2.2.2.2.2.2.2.2.1.1.2.2,v.2.2.2.2.2.2.2.2.2.2.1.2.1.1,v.2.2.2.2.2.2.2.2.2.2.1.2.1.2.1,v.2.2.2.2.2.2.2.2.2.2.1.2.1.2.2⟩
 fr:=λx=>(((),((),(x.n2,(x.i2,((),((),((),((),())))))))),(((),((),())),(((),((),())),(((),((),())),(x.xs,(x.ys,(((x.oi_lo,x.oi_len,x.oi_cap),((x.os_lo,x.os_len,x.os_cap),())),((x.l,()),(((),()),(((),()),(((x.bi_lo,x.bi_len,x.bi_cap),((x.bs_lo,x.bs_len,x.bs_cap),())),())))))))))))
structure Qt where(xs ys:List (Int))(oi_lo oi_len oi_cap os_lo os_len os_cap:Nat)(l:List (Int))(bi_lo bi_len bi_cap bs_lo bs_len bs_cap:Nat)
def X4:Pt Qt where
 own:=[]
 t:=⟨[(2000004,.c (.ptr 2 0)),(2000007,.c (.ptr 5 0)),(2000008,.c (.ptr 6 0)),(3000000,.c (.fn 0))],[.st [.junk,.junk] 1 0,.st [.junk,.junk] 1 0,.st [.junk,.junk] 1 0,.arr (.int .u8) 0,.arr (.int .u8) 0,.st [.slc 3 0 1,.slc 4 0 1] 1 0,.st [.arr (.int .u8)] 1 0,.st [.junk] 1 0,.st [.junk] 1 0,.st [.slc 3 0 1,.slc 4 0 1] 1 0]⟩
 to:=λv=>⟨v.2.2.2.2.1,v.2.2.2.2.2.1,v.2.2.2.2.2.2.1.1.1,v.2.2.2.2.2.2.1.1.2.1,v.2.2.2.2.2.2.1.1.2.2,v.2.2.2.2.2.2.1.2.1.1,v.2.2.2.2.2.2.1.2.1.2.1,v.2.2.2.2.2.2.1.2.1.2.2,v.2.2.2.2.2.2.2.1.1,v.2.2.2.2.2.2.2.2.2.2.1.1.1,v.2.2.2.2.2.2.2.2.2.2.1.1.2.1,v.2.2.2.2.2.2.2.2.2.2.1.1.2.2,v.2.2.2.2.2.2.2.2.2.2.1.2.1.1,v.2.2.2.2.2.2.2.2.2.2.1.2.1.2.1,v.2.2.2.2.2.2.2.2.2.2.1.2.1.2.2⟩
 fr:=λx=>(((),((),((),((),())))),(((),((),())),(((),((),())),(((),((),())),(x.xs,(x.ys,(((x.oi_lo,x.oi_len,x.oi_cap),((x.os_lo,x.os_len,x.os_cap),())),((x.l,()),(((),()),(((),()),(((x.bi_lo,x.bi_len,x.bi_cap),((x.bs_lo,x.bs_len,x.bs_cap),())),())))))))))))
def QK(x:QM):Option (QM⊕Qt):=bif decide (x.i2<x.n2) then bif inR x.i2 x.bs_len then Q1 (Xn { i:=IntKind.i64.wrap ((↑x.bi_len:Int)+x.i2),v:=x.bs_lo+x.i2.toNat,xs:=x.xs,ys:=x.ys,oi_lo:=x.oi_lo,oi_len:=x.oi_len,oi_cap:=x.oi_cap,os_lo:=x.os_lo,os_len:=x.os_len,os_cap:=x.os_cap,l:=x.l,bi_lo:=x.bi_lo,bi_len:=x.bi_len,bi_cap:=x.bi_cap,bs_lo:=x.bs_lo,bs_len:=x.bs_len,bs_cap:=x.bs_cap }) λy=>some (Sum.inl { n2:=x.n2,i2:=IntKind.i64.wrap (x.i2+1),xs:=y.xs,ys:=y.ys,oi_lo:=y.oi_lo,oi_len:=y.oi_len,oi_cap:=y.oi_cap,os_lo:=y.os_lo,os_len:=y.os_len,os_cap:=y.os_cap,l:=y.l,bi_lo:=y.bi_lo,bi_len:=y.bi_len,bi_cap:=y.bi_cap,bs_lo:=y.bs_lo,bs_len:=y.bs_len,bs_cap:=y.bs_cap }) else none
else
 some
  (Sum.inr
   {xs:=x.xs,ys:=x.ys,oi_lo:=x.oi_lo,oi_len:=x.oi_len,oi_cap:=x.oi_cap,os_lo:=x.os_lo,os_len:=x.os_len,os_cap:=x.os_cap,l:=x.l,bi_lo:=x.bi_lo,
    bi_len:=x.bi_len,bi_cap:=x.bi_cap,bs_lo:=x.bs_lo,bs_len:=x.bs_len,bs_cap:=x.bs_cap })
theorem JU(x:QM):exec X8 39 (C50.Q2 1) 2 (J0.R x) (J0.H x) (J4 0 J0 (.exit 2) X4)=QK x:=by kernel_rfl
def JY:QB:=J5 0 J0 (.exit 2) X4 QK
theorem XW:QA (C50.Q2 1) 2=[]:=by kernel_rfl
theorem JX{y:YI}(hy:Rnd R0.rA R0.rB R0.rP 42 y):QH Try.prog 39 none 0 (C50.Q2 1) JY (some y):=QQ mixed (Q7 Q9 Q6 _) (by trivial) (λ_=>rfl) (λ_=>rfl) (XW▸Q8.nil) JU (hyk:=Zb hy)
def X9:Env:=⟨ty,QJ cl,JB [(1,JY)],some (R0.rP,ub0)⟩
theorem Zc{y:YI}(hy:Rnd R0.rA R0.rB R0.rP 42 y):Qp Try.prog 0 X9 (some y):=JA rfl (by kernel_rfl) (by kernel_rfl) Qr hy
structure QN where(n i:Int)(xs ys:List (Int))(oi_lo oi_len oi_cap os_lo os_len os_cap:Nat)(l:List (Int))(bi_lo bi_len bi_cap bs_lo bs_len bs_cap:Nat)
def J1:Pt QN where
 own:=[]
 t:=⟨[(0,.c (.clo 1000000 [])),(1,.c (.ptr 9 0)),(7,.c (.it .i64)),(8,.c (.it .i64)),(2000004,.c (.ptr 2 0)),(2000007,.c (.ptr 5 0)),(2000008,.c (.ptr 6 0)),(3000000,.c (.fn 0))],[.st [.junk,.junk] 1 0,.st [.junk,.junk] 1 0,.st [.junk,.junk] 1 0,.arr (.int .u8) 0,.arr (.int .u8) 0,.st [.slc 3 0 1,.slc 4 0 1] 1 0,.st [.arr (.int .u8)] 1 0,.st [.junk] 1 0,.st [.junk] 1 0,.st [.slc 3 0 1,.slc 4 0 1] 1 0]⟩
 to:=λv=>⟨v.1.2.2.1,v.1.2.2.2.1,v.2.2.2.2.1,v.2.2.2.2.2.1,v.2.2.2.2.2.2.1.1.1,v.2.2.2.2.2.2.1.1.2.1,v.2.2.2.2.2.2.1.1.2.2,v.2.2.2.2.2.2.1.2.1.1,v.2.2.2.2.2.2.1.2.1.2.1,v.2.2.2.2.2.2.1.2.1.2.2,v.2.2.2.2.2.2.2.1.1,v.2.2.2.2.2.2.2.2.2.2.1.1.1,v.2.2.2.2.2.2.2.2.2.2.1.1.2.1,v.2.2.2.2.2.2.2.2.2.2.1.1.2.2,v.2.2.2.2.2.2.2.2.2.2.1.2.1.1,v.2.2.2.2.2.2.2.2.2.2.1.2.1.2.1,v.2.2.2.2.2.2.2.2.2.2.1.2.1.2.2⟩
 fr:=λx=>(((),((),(x.n,(x.i,((),((),((),((),())))))))),(((),((),())),(((),((),())),(((),((),())),(x.xs,(x.ys,(((x.oi_lo,x.oi_len,x.oi_cap),((x.os_lo,x.os_len,x.os_cap),())),((x.l,()),(((),()),(((),()),(((x.bi_lo,x.bi_len,x.bi_cap),((x.bs_lo,x.bs_len,x.bs_cap),())),())))))))))))
structure Qu where(xs ys:List (Int))(oi_lo oi_len oi_cap os_lo os_len os_cap:Nat)(l:List (Int))(bi_lo bi_len bi_cap bs_lo bs_len bs_cap:Nat)
def X5:Pt Qu where
 own:=[]
 t:=⟨[(0,.c (.clo 1000000 [])),(1,.c (.ptr 9 0)),(2000004,.c (.ptr 2 0)),(2000007,.c (.ptr 5 0)),(2000008,.c (.ptr 6 0)),(3000000,.c (.fn 0))],[.st [.junk,.junk] 1 0,.st [.junk,.junk] 1 0,.st [.junk,.junk] 1 0,.arr (.int .u8) 0,.arr (.int .u8) 0,.st [.slc 3 0 1,.slc 4 0 1] 1 0,.st [.arr (.int .u8)] 1 0,.st [.junk] 1 0,.st [.junk] 1 0,.st [.slc 3 0 1,.slc 4 0 1] 1 0]⟩
 to:=λv=>⟨v.2.2.2.2.1,v.2.2.2.2.2.1,v.2.2.2.2.2.2.1.1.1,v.2.2.2.2.2.2.1.1.2.1,v.2.2.2.2.2.2.1.1.2.2,v.2.2.2.2.2.2.1.2.1.1,v.2.2.2.2.2.2.1.2.1.2.1,v.2.2.2.2.2.2.1.2.1.2.2,v.2.2.2.2.2.2.2.1.1,v.2.2.2.2.2.2.2.2.2.2.1.1.1,v.2.2.2.2.2.2.2.2.2.2.1.1.2.1,v.2.2.2.2.2.2.2.2.2.2.1.1.2.2,v.2.2.2.2.2.2.2.2.2.2.1.2.1.1,v.2.2.2.2.2.2.2.2.2.2.1.2.1.2.1,v.2.2.2.2.2.2.2.2.2.2.1.2.1.2.2⟩
 fr:=λx=>(((),((),((),((),((),((),())))))),(((),((),())),(((),((),())),(((),((),())),(x.xs,(x.ys,(((x.oi_lo,x.oi_len,x.oi_cap),((x.os_lo,x.os_len,x.os_cap),())),((x.l,()),(((),()),(((),()),(((x.bi_lo,x.bi_len,x.bi_cap),((x.bs_lo,x.bs_len,x.bs_cap),())),())))))))))))
def QL(x:QN):Option (QN⊕Qu):=bif decide (x.i<x.n) then bif inR x.i x.bi_len then Q1 (Xo { i:=x.i,v:=x.bi_lo+x.i.toNat,xs:=x.xs,ys:=x.ys,oi_lo:=x.oi_lo,oi_len:=x.oi_len,oi_cap:=x.oi_cap,os_lo:=x.os_lo,os_len:=x.os_len,os_cap:=x.os_cap,l:=x.l,bi_lo:=x.bi_lo,bi_len:=x.bi_len,bi_cap:=x.bi_cap,bs_lo:=x.bs_lo,bs_len:=x.bs_len,bs_cap:=x.bs_cap }) λy=>some (Sum.inl { n:=x.n,i:=IntKind.i64.wrap (x.i+1),xs:=y.xs,ys:=y.ys,oi_lo:=y.oi_lo,oi_len:=y.oi_len,oi_cap:=y.oi_cap,os_lo:=y.os_lo,os_len:=y.os_len,os_cap:=y.os_cap,l:=y.l,bi_lo:=y.bi_lo,bi_len:=y.bi_len,bi_cap:=y.bi_cap,bs_lo:=y.bs_lo,bs_len:=y.bs_len,bs_cap:=y.bs_cap }) else none
else
 some
  (Sum.inr
   {xs:=x.xs,ys:=x.ys,oi_lo:=x.oi_lo,oi_len:=x.oi_len,oi_cap:=x.oi_cap,os_lo:=x.os_lo,os_len:=x.os_len,os_cap:=x.os_cap,l:=x.l,bi_lo:=x.bi_lo,
    bi_len:=x.bi_len,bi_cap:=x.bi_cap,bs_lo:=x.bs_lo,bs_len:=x.bs_len,bs_cap:=x.bs_cap })
theorem JW(x:QN):exec X9 39 (C50.Q2 0) 1 (J1.R x) (J1.H x) (J4 0 J1 (.exit 0) X5)=QL x:=by kernel_rfl
def X6:QB:=J5 0 J1 (.exit 0) X5 QL
theorem XX:QA (C50.Q2 0) 1=[]:=by kernel_rfl
theorem JZ{y:YI}(hy:Rnd R0.rA R0.rB R0.rP 42 y):QH Try.prog 39 none 0 (C50.Q2 0) X6 (some y):=QQ mixed (Q7 Q9 Q6 _) (by trivial) (λ_=>rfl) (λ_=>rfl) (XX▸Q8.nil) JW (hyk:=Zc hy)
def XA:Env:=⟨ty,QJ cl,JB [(0,X6),(1,JY)],some (R0.rP,ub0)⟩
theorem Zd{y:YI}(hy:Rnd R0.rA R0.rB R0.rP 42 y):Qp Try.prog 0 XA (some y):=JA rfl (by kernel_rfl) (by kernel_rfl) Qr hy
structure p0X where(xs ys:List (Int))(oi_lo oi_len oi_cap os_lo os_len os_cap:Nat)(l:List (Int))(bi_lo bi_len bi_cap bs_lo bs_len bs_cap:Nat)
def p0:Pt p0X where
 own:=[]
 t:=⟨[(4,.c (.ptr 2 0)),(7,.c (.ptr 5 0)),(8,.c (.ptr 6 0)),(28,.c (.clo 50 [⟨9,0,0⟩]))],[.st [.junk,.junk] 1 0,.st [.junk,.junk] 1 0,.st [.junk,.junk] 1 0,.arr (.int .u8) 0,.arr (.int .u8) 0,.st [.slc 3 0 1,.slc 4 0 1] 1 0,.st [.arr (.int .u8)] 1 0,.st [.junk] 1 0,.st [.junk] 1 0,.st [.slc 3 0 1,.slc 4 0 1] 1 0]⟩
 to:=λv=>⟨v.2.2.2.2.1,v.2.2.2.2.2.1,v.2.2.2.2.2.2.1.1.1,v.2.2.2.2.2.2.1.1.2.1,v.2.2.2.2.2.2.1.1.2.2,v.2.2.2.2.2.2.1.2.1.1,v.2.2.2.2.2.2.1.2.1.2.1,v.2.2.2.2.2.2.1.2.1.2.2,v.2.2.2.2.2.2.2.1.1,v.2.2.2.2.2.2.2.2.2.2.1.1.1,v.2.2.2.2.2.2.2.2.2.2.1.1.2.1,v.2.2.2.2.2.2.2.2.2.2.1.1.2.2,v.2.2.2.2.2.2.2.2.2.2.1.2.1.1,v.2.2.2.2.2.2.2.2.2.2.1.2.1.2.1,v.2.2.2.2.2.2.2.2.2.2.1.2.1.2.2⟩
 fr:=λx=>(((),((),((),((),())))),(((),((),())),(((),((),())),(((),((),())),(x.xs,(x.ys,(((x.oi_lo,x.oi_len,x.oi_cap),((x.os_lo,x.os_len,x.os_cap),())),((x.l,()),(((),()),(((),()),(((x.bi_lo,x.bi_len,x.bi_cap),((x.bs_lo,x.bs_len,x.bs_cap),())),())))))))))))
structure q0X where(xs ys:List (Int))(oi_lo oi_len oi_cap os_lo os_len os_cap:Nat)(l:List (Int))(bi_lo bi_len bi_cap bs_lo bs_len bs_cap:Nat)
def q0:Pt q0X where
 own:=[]
 t:=⟨[(4,.c (.ptr 2 0)),(7,.c (.ptr 5 0)),(8,.c (.ptr 6 0))],[.st [.junk,.junk] 1 0,.st [.junk,.junk] 1 0,.st [.junk,.junk] 1 0,.arr (.int .u8) 0,.arr (.int .u8) 0,.st [.slc 3 0 1,.slc 4 0 1] 1 0,.st [.arr (.int .u8)] 1 0,.st [.junk] 1 0,.st [.junk] 1 0,.st [.slc 3 0 1,.slc 4 0 1] 1 0]⟩
 to:=λv=>⟨v.2.2.2.2.1,v.2.2.2.2.2.1,v.2.2.2.2.2.2.1.1.1,v.2.2.2.2.2.2.1.1.2.1,v.2.2.2.2.2.2.1.1.2.2,v.2.2.2.2.2.2.1.2.1.1,v.2.2.2.2.2.2.1.2.1.2.1,v.2.2.2.2.2.2.1.2.1.2.2,v.2.2.2.2.2.2.2.1.1,v.2.2.2.2.2.2.2.2.2.2.1.1.1,v.2.2.2.2.2.2.2.2.2.2.1.1.2.1,v.2.2.2.2.2.2.2.2.2.2.1.1.2.2,v.2.2.2.2.2.2.2.2.2.2.1.2.1.1,v.2.2.2.2.2.2.2.2.2.2.1.2.1.2.1,v.2.2.2.2.2.2.2.2.2.2.1.2.1.2.2⟩
 fr:=λx=>(((),((),((),()))),(((),((),())),(((),((),())),(((),((),())),(x.xs,(x.ys,(((x.oi_lo,x.oi_len,x.oi_cap),((x.os_lo,x.os_len,x.os_cap),())),((x.l,()),(((),()),(((),()),(((x.bi_lo,x.bi_len,x.bi_cap),((x.bs_lo,x.bs_len,x.bs_cap),())),())))))))))))
def s0(x:p0X):Option q0X:=Q1 (iter QL ⟨(↑x.bi_len:Int),0,x.xs,x.ys,x.oi_lo,x.oi_len,x.oi_cap,x.os_lo,x.os_len,x.os_cap,x.l,x.bi_lo,x.bi_len,x.bi_cap,x.bs_lo,x.bs_len,x.bs_cap⟩) λy=>Q1 (iter QK ⟨(↑y.bs_len:Int),0,y.xs,y.ys,y.oi_lo,y.oi_len,y.oi_cap,y.os_lo,y.os_len,y.os_cap,y.l,y.bi_lo,y.bi_len,y.bi_cap,y.bs_lo,y.bs_len,y.bs_cap⟩) λy=>some ⟨y.xs,y.ys,y.oi_lo,y.oi_len,y.oi_cap,y.os_lo,y.os_len,y.os_cap,y.l,y.bi_lo,y.bi_len,y.bi_cap,y.bs_lo,y.bs_len,y.bs_cap⟩
theorem Qd(x:p0X):ZA XA 39 C50 50 R0.rF (p0.R x) (p0.H x) (Xz (Zy 0 q0))=s0 x:=by kernel_rfl
def l0:QB:=mkUnit 0 p0 q0 s0
theorem ti0:QA C50 0=[(0,C50.Q2 0),(1,C50.Q2 1)]:=by kernel_rfl
theorem Qe:Z3 Try.prog 42 0 R0.rF R0.rP R0.rA R0.rB l0:=Zh mixed (Q7 Q9 Q6 _) (λhy=>Zd hy) s50 (by kernel_rfl) (λhy=>ti0▸(Q8.cons rfl (JZ hy) (Q8.cons rfl (JX hy) Q8.nil))) (λ_=>rfl) (λ_=>rfl) Qd
def E0:Env:=⟨ty,QJ cl,JB [(0,l0)],none⟩
theorem ur:Kn C13 0=[(0,R0)]:=by kernel_rfl
def m(x:gX):Option fY:=Q1 (M33.m ⟨x.ai,x.as_,x.bi,x.bs⟩) λy=>bif y !=0 then some ([],[],y) else Q1 (M16.m ⟨x.ai,x.as_,x.bi,x.bs⟩) λy=>bif !y then some ([],[],9) else Q1 (M34.m ⟨x.ai,x.as_⟩) λy=>Q1 (M35.m ⟨x.bi,x.bs⟩) λy_1=>Q1 (M36o.m ⟨y.1,y.2.1,y.2.2.1,y.2.2.2.1,y.2.2.2.2.1,y.2.2.2.2.2.1,y.2.2.2.2.2.2.1,y.2.2.2.2.2.2.2⟩) λy_2=>Q1 (s0 ⟨y_2.1,y_2.2.1,y.1,y.2.1,y.2.2.1,y.2.2.2.1,y.2.2.2.2.1,y.2.2.2.2.2.1,y_1,y_2.2.2.1,y_2.2.2.2.1,y_2.2.2.2.2.1,y_2.2.2.2.2.2.1,y_2.2.2.2.2.2.2.1,y_2.2.2.2.2.2.2.2⟩) λy=>bif leB (y.oi_lo+y.oi_len) y.xs.length&&(leB (y.os_lo+y.os_len) y.ys.length&&true)&&true&&true&&true then some (List.take y.oi_len (List.drop y.oi_lo y.xs),List.take y.os_len (List.drop y.os_lo y.ys),0) else none
theorem QW(x:gX):exec E0 42 C13 0 (QX 0 (g.A x)) (g.H x) (finish 0 ty [.cell 4 29,.tmp 5] f)=m x:=by kernel_rfl
theorem tl:QA C13 0=[]:=by kernel_rfl
theorem known:QV Try.prog 13 g f m:=
 QD mixed (Q7 Q9 Q6 _) s13 rfl rfl tl Q8.nil (λ_ _=>⟨rfl,rfl⟩) (λ_ _=>⟨rfl,rfl⟩) QW (hg:=Jx.of rfl (ur▸(Zs.cons rfl (by kernel_rfl) Qe Zs.nil)))
def con:Con:=XI g f m default
theorem Q5:Qk Try.prog 13 con:=Qa known (λ_=>rfl) rfl
end M13
namespace M19
structure gX where(i s:List (Int))(w:Int)
def g:Sg gX:=⟨[.agg [.arr (.int .u8),.arr (.int .u8)],.c (.it .u8)],[],λa b=>⟨a.1.1,a.1.2.1,a.2.1⟩,λx=>((x.i,(x.s,())),(x.w,())),λx=>()⟩
abbrev fY:=List (Int)×List (Int)×Int
def f:Ft fY:=⟨none,.tup [.inr [.arr (.int .u8),.arr (.int .u8)],.inl (.it .i64)],[],λa b=>(a.1.1,a.1.2.1,a.2.1),λy=>((y.1,(y.2.1,())),(y.2.2,())),λy=>()⟩
def cl:List (FuncId×Con):=[(29,M29.con),(35,M35.con),(40,M40.con),(34,M34.con),(36,M36o.con)]
theorem Q6:QT Try.prog cl:=⟨M29.Q5,M35.Q5,M40.Q5,M34.Q5,M36o.Q5,trivial⟩
def R0:CC:=C19.Zf 0
def Xl:Env:=⟨ty,QJ cl,λ_=>none,none⟩
structure XT where(v:Nat)(w last:Int)(xs ys:List (Int))(oi_lo oi_len oi_cap os_lo os_len os_cap bi_lo bi_len bi_cap bs_lo bs_len bs_cap:Nat)
def Ke:Pt XT where
 own:=[]
 t:=⟨[(3,.c (.ptr 1 0)),(4,.c (.ptr 2 0)),(7,.c (.ptr 3 0)),(9,.c (.ptr 6 0)),(41,.c (.el 4 0 1 0)),(1000000,.c (.clo 1000000 [])),(1000001,.c (.ptr 7 0)),(2000003,.c (.ptr 1 0)),(2000004,.c (.ptr 2 0)),(2000007,.c (.ptr 3 0)),(2000009,.c (.ptr 6 0))],[.st [.junk,.junk] 1 0,.st [.it .u8] 1 0,.st [.junk,.junk] 1 0,.st [.it .u8] 1 0,.arr (.int .u8) 0,.arr (.int .u8) 0,.st [.slc 4 0 1,.slc 5 0 1] 1 0,.st [.slc 4 0 1,.slc 5 0 1] 1 0]⟩
 to:=λv=>⟨v.1.2.2.2.2.1,v.2.2.1.1,v.2.2.2.2.1.1,v.2.2.2.2.2.1,v.2.2.2.2.2.2.1,v.2.2.2.2.2.2.2.1.1.1,v.2.2.2.2.2.2.2.1.1.2.1,v.2.2.2.2.2.2.2.1.1.2.2,v.2.2.2.2.2.2.2.1.2.1.1,v.2.2.2.2.2.2.2.1.2.1.2.1,v.2.2.2.2.2.2.2.1.2.1.2.2,v.2.2.2.2.2.2.2.2.1.1.1,v.2.2.2.2.2.2.2.2.1.1.2.1,v.2.2.2.2.2.2.2.2.1.1.2.2,v.2.2.2.2.2.2.2.2.1.2.1.1,v.2.2.2.2.2.2.2.2.1.2.1.2.1,v.2.2.2.2.2.2.2.2.1.2.1.2.2⟩
 fr:=λx=>(((),((),((),((),(x.v,((),((),((),((),((),((),()))))))))))),(((),((),())),((x.w,()),(((),((),())),((x.last,()),(x.xs,(x.ys,(((x.oi_lo,x.oi_len,x.oi_cap),((x.os_lo,x.os_len,x.os_cap),())),(((x.bi_lo,x.bi_len,x.bi_cap),((x.bs_lo,x.bs_len,x.bs_cap),())),())))))))))
structure ZG where(w last:Int)(xs ys:List (Int))(oi_lo oi_len oi_cap os_lo os_len os_cap bi_lo bi_len bi_cap bs_lo bs_len bs_cap:Nat)
def VF:Pt ZG where
 own:=[]
 t:=⟨[(1000000,.c (.clo 1000000 [])),(1000001,.c (.ptr 7 0)),(2000003,.c (.ptr 1 0)),(2000004,.c (.ptr 2 0)),(2000007,.c (.ptr 3 0)),(2000009,.c (.ptr 6 0))],[.st [.junk,.junk] 1 0,.st [.it .u8] 1 0,.st [.junk,.junk] 1 0,.st [.it .u8] 1 0,.arr (.int .u8) 0,.arr (.int .u8) 0,.st [.slc 4 0 1,.slc 5 0 1] 1 0,.st [.slc 4 0 1,.slc 5 0 1] 1 0]⟩
 to:=λv=>⟨v.2.2.1.1,v.2.2.2.2.1.1,v.2.2.2.2.2.1,v.2.2.2.2.2.2.1,v.2.2.2.2.2.2.2.1.1.1,v.2.2.2.2.2.2.2.1.1.2.1,v.2.2.2.2.2.2.2.1.1.2.2,v.2.2.2.2.2.2.2.1.2.1.1,v.2.2.2.2.2.2.2.1.2.1.2.1,v.2.2.2.2.2.2.2.1.2.1.2.2,v.2.2.2.2.2.2.2.2.1.1.1,v.2.2.2.2.2.2.2.2.1.1.2.1,v.2.2.2.2.2.2.2.2.1.1.2.2,v.2.2.2.2.2.2.2.2.1.2.1.1,v.2.2.2.2.2.2.2.2.1.2.1.2.1,v.2.2.2.2.2.2.2.2.1.2.1.2.2⟩
 fr:=λx=>(((),((),((),((),((),((),())))))),(((),((),())),((x.w,()),(((),((),())),((x.last,()),(x.xs,(x.ys,(((x.oi_lo,x.oi_len,x.oi_cap),((x.os_lo,x.os_len,x.os_cap),())),(((x.bi_lo,x.bi_len,x.bi_cap),((x.bs_lo,x.bs_len,x.bs_cap),())),())))))))))
def Xo(x:XT):Option ZG:=bif decide (x.v<x.xs.length) then bif x.xs[x.v]?.getD 0==2 then bif decide (x.v<x.xs.length) then some { w:=x.w,last:=x.last,xs:=x.xs.set x.v x.last,ys:=x.ys,oi_lo:=x.oi_lo,oi_len:=x.oi_len,oi_cap:=x.oi_cap,os_lo:=x.os_lo,os_len:=x.os_len,os_cap:=x.os_cap,bi_lo:=x.bi_lo,bi_len:=x.bi_len,bi_cap:=x.bi_cap,bs_lo:=x.bs_lo,bs_len:=x.bs_len,bs_cap:=x.bs_cap } else none else bif x.w==2 then bif decide (x.v<x.xs.length) then some { w:=x.w,last:=x.xs[x.v]?.getD 0,xs:=x.xs,ys:=x.ys,oi_lo:=x.oi_lo,oi_len:=x.oi_len,oi_cap:=x.oi_cap,os_lo:=x.os_lo,os_len:=x.os_len,os_cap:=x.os_cap,bi_lo:=x.bi_lo,bi_len:=x.bi_len,bi_cap:=x.bi_cap,bs_lo:=x.bs_lo,bs_len:=x.bs_len,bs_cap:=x.bs_cap } else none else some { w:=x.w,last:=x.last,xs:=x.xs,ys:=x.ys,oi_lo:=x.oi_lo,oi_len:=x.oi_len,oi_cap:=x.oi_cap,os_lo:=x.os_lo,os_len:=x.os_len,os_cap:=x.os_cap,bi_lo:=x.bi_lo,bi_len:=x.bi_len,bi_cap:=x.bi_cap,bs_lo:=x.bs_lo,bs_len:=x.bs_len,bs_cap:=x.bs_cap }
else none
theorem Y9(x:XT):JE Xl 57 R0.rA R0.rB (Ke.R x) (Ke.H x) (Zy 0 VF)=Xo x:=by kernel_rfl
def Ua:QB:=mkUnit 0 Ke VF Xo
theorem ta0a:QA R0.rA 0=[]:=by kernel_rfl
theorem tb0a:QA R0.rB R0.rA.nl=[]:=by kernel_rfl
theorem Y5{y:YI}(hy:Rnd R0.rA R0.rB R0.rP 57 y):J2 Try.prog 57 0 y.assign y.body Ua:=Jk mixed (Q7 Q9 Q6 _) rfl ⟨by kernel_rfl,by kernel_rfl⟩ (λ_=>rfl) (λ_=>rfl) (λ_=>ta0a▸Q8.nil) (λl=>tb0a▸Q8.nil) Y9 hy
structure XS where(v:Nat)(w last:Int)(xs ys:List (Int))(oi_lo oi_len oi_cap os_lo os_len os_cap bi_lo bi_len bi_cap bs_lo bs_len bs_cap:Nat)
def Kb:Pt XS where
 own:=[]
 t:=⟨[(3,.c (.ptr 1 0)),(4,.c (.ptr 2 0)),(7,.c (.ptr 3 0)),(9,.c (.ptr 6 0)),(41,.c (.el 5 0 1 0)),(1000000,.c (.clo 1000000 [])),(1000001,.c (.ptr 7 0)),(2000003,.c (.ptr 1 0)),(2000004,.c (.ptr 2 0)),(2000007,.c (.ptr 3 0)),(2000009,.c (.ptr 6 0))],[.st [.junk,.junk] 1 0,.st [.it .u8] 1 0,.st [.junk,.junk] 1 0,.st [.it .u8] 1 0,.arr (.int .u8) 0,.arr (.int .u8) 0,.st [.slc 4 0 1,.slc 5 0 1] 1 0,.st [.slc 4 0 1,.slc 5 0 1] 1 0]⟩
 to:=λv=>⟨v.1.2.2.2.2.1,v.2.2.1.1,v.2.2.2.2.1.1,v.2.2.2.2.2.1,v.2.2.2.2.2.2.1,v.2.2.2.2.2.2.2.1.1.1,v.2.2.2.2.2.2.2.1.1.2.1,v.2.2.2.2.2.2.2.1.1.2.2,v.2.2.2.2.2.2.2.1.2.1.1,v.2.2.2.2.2.2.2.1.2.1.2.1,v.2.2.2.2.2.2.2.1.2.1.2.2,v.2.2.2.2.2.2.2.2.1.1.1,v.2.2.2.2.2.2.2.2.1.1.2.1,v.2.2.2.2.2.2.2.2.1.1.2.2,v.2.2.2.2.2.2.2.2.1.2.1.1,v.2.2.2.2.2.2.2.2.1.2.1.2.1,v.2.2.2.2.2.2.2.2.1.2.1.2.2⟩
 fr:=λx=>(((),((),((),((),(x.v,((),((),((),((),((),((),()))))))))))),(((),((),())),((x.w,()),(((),((),())),((x.last,()),(x.xs,(x.ys,(((x.oi_lo,x.oi_len,x.oi_cap),((x.os_lo,x.os_len,x.os_cap),())),(((x.bi_lo,x.bi_len,x.bi_cap),((x.bs_lo,x.bs_len,x.bs_cap),())),())))))))))
structure ZF where(w last:Int)(xs ys:List (Int))(oi_lo oi_len oi_cap os_lo os_len os_cap bi_lo bi_len bi_cap bs_lo bs_len bs_cap:Nat)
def VE:Pt ZF where
 own:=[]
 t:=⟨[(1000000,.c (.clo 1000000 [])),(1000001,.c (.ptr 7 0)),(2000003,.c (.ptr 1 0)),(2000004,.c (.ptr 2 0)),(2000007,.c (.ptr 3 0)),(2000009,.c (.ptr 6 0))],[.st [.junk,.junk] 1 0,.st [.it .u8] 1 0,.st [.junk,.junk] 1 0,.st [.it .u8] 1 0,.arr (.int .u8) 0,.arr (.int .u8) 0,.st [.slc 4 0 1,.slc 5 0 1] 1 0,.st [.slc 4 0 1,.slc 5 0 1] 1 0]⟩
 to:=λv=>⟨v.2.2.1.1,v.2.2.2.2.1.1,v.2.2.2.2.2.1,v.2.2.2.2.2.2.1,v.2.2.2.2.2.2.2.1.1.1,v.2.2.2.2.2.2.2.1.1.2.1,v.2.2.2.2.2.2.2.1.1.2.2,v.2.2.2.2.2.2.2.1.2.1.1,v.2.2.2.2.2.2.2.1.2.1.2.1,v.2.2.2.2.2.2.2.1.2.1.2.2,v.2.2.2.2.2.2.2.2.1.1.1,v.2.2.2.2.2.2.2.2.1.1.2.1,v.2.2.2.2.2.2.2.2.1.1.2.2,v.2.2.2.2.2.2.2.2.1.2.1.1,v.2.2.2.2.2.2.2.2.1.2.1.2.1,v.2.2.2.2.2.2.2.2.1.2.1.2.2⟩
 fr:=λx=>(((),((),((),((),((),((),())))))),(((),((),())),((x.w,()),(((),((),())),((x.last,()),(x.xs,(x.ys,(((x.oi_lo,x.oi_len,x.oi_cap),((x.os_lo,x.os_len,x.os_cap),())),(((x.bi_lo,x.bi_len,x.bi_cap),((x.bs_lo,x.bs_len,x.bs_cap),())),())))))))))
def Xn(x:XS):Option ZF:=bif decide (x.v<x.ys.length) then bif x.ys[x.v]?.getD 0==2 then bif decide (x.v<x.ys.length) then some { w:=x.w,last:=x.last,xs:=x.xs,ys:=x.ys.set x.v x.last,oi_lo:=x.oi_lo,oi_len:=x.oi_len,oi_cap:=x.oi_cap,os_lo:=x.os_lo,os_len:=x.os_len,os_cap:=x.os_cap,bi_lo:=x.bi_lo,bi_len:=x.bi_len,bi_cap:=x.bi_cap,bs_lo:=x.bs_lo,bs_len:=x.bs_len,bs_cap:=x.bs_cap } else none else bif x.w==2 then bif decide (x.v<x.ys.length) then some { w:=x.w,last:=x.ys[x.v]?.getD 0,xs:=x.xs,ys:=x.ys,oi_lo:=x.oi_lo,oi_len:=x.oi_len,oi_cap:=x.oi_cap,os_lo:=x.os_lo,os_len:=x.os_len,os_cap:=x.os_cap,bi_lo:=x.bi_lo,bi_len:=x.bi_len,bi_cap:=x.bi_cap,bs_lo:=x.bs_lo,bs_len:=x.bs_len,bs_cap:=x.bs_cap } else none else some { w:=x.w,last:=x.last,xs:=x.xs,ys:=x.ys,oi_lo:=x.oi_lo,oi_len:=x.oi_len,oi_cap:=x.oi_cap,os_lo:=x.os_lo,os_len:=x.os_len,os_cap:=x.os_cap,bi_lo:=x.bi_lo,bi_len:=x.bi_len,bi_cap:=x.bi_cap,bs_lo:=x.bs_lo,bs_len:=x.bs_len,bs_cap:=x.bs_cap }
else none
theorem Y7(x:XS):JE Xl 57 R0.rA R0.rB (Kb.R x) (Kb.H x) (Zy 0 VE)=Xn x:=by kernel_rfl
def UZ:QB:=mkUnit 0 Kb VE Xn
theorem ta0b:QA R0.rA 0=[]:=by kernel_rfl
theorem tb0b:QA R0.rB R0.rA.nl=[]:=by kernel_rfl
theorem Y4{y:YI}(hy:Rnd R0.rA R0.rB R0.rP 57 y):J2 Try.prog 57 0 y.assign y.body UZ:=Jk mixed (Q7 Q9 Q6 _) rfl ⟨by kernel_rfl,by kernel_rfl⟩ (λ_=>rfl) (λ_=>rfl) (λ_=>ta0b▸Q8.nil) (λl=>tb0b▸Q8.nil) Y7 hy
def ub0:QB:=.alt Ua UZ
theorem Qr{y:YI}(hy:Rnd R0.rA R0.rB R0.rP 57 y):J2 Try.prog 57 0 y.assign y.body ub0:=⟨Y5 hy,Y4 hy⟩
def X8:Env:=⟨ty,QJ cl,λ_=>none,some (R0.rP,ub0)⟩
theorem Zb{y:YI}(hy:Rnd R0.rA R0.rB R0.rP 57 y):Qp Try.prog 0 X8 (some y):=JA rfl (by kernel_rfl) (by kernel_rfl) Qr hy
structure QM where(n2 i2 w last:Int)(xs ys:List (Int))(oi_lo oi_len oi_cap os_lo os_len os_cap bi_lo bi_len bi_cap bs_lo bs_len bs_cap:Nat)
def J0:Pt QM where
 own:=[]
 t:=⟨[(0,.c (.clo 1000000 [])),(1,.c (.ptr 7 0)),(22,.c (.it .i64)),(23,.c (.it .i64)),(2000003,.c (.ptr 1 0)),(2000004,.c (.ptr 2 0)),(2000007,.c (.ptr 3 0)),(2000009,.c (.ptr 6 0)),(3000000,.c (.fn 0))],[.st [.junk,.junk] 1 0,.st [.it .u8] 1 0,.st [.junk,.junk] 1 0,.st [.it .u8] 1 0,.arr (.int .u8) 0,.arr (.int .u8) 0,.st [.slc 4 0 1,.slc 5 0 1] 1 0,.st [.slc 4 0 1,.slc 5 0 1] 1 0]⟩
 to:=λv=>⟨v.1.2.2.1,v.1.2.2.2.1,v.2.2.1.1,v.2.2.2.2.1.1,v.2.2.2.2.2.1,v.2.2.2.2.2.2.1,v.2.2.2.2.2.2.2.1.1.1,v.2.2.2.2.2.2.2.1.1.2.1,v.2.2.2.2.2.2.2.1.1.2.2,v.2.2.2.2.2.2.2.1.2.1.1,v.2.2.2.2.2.2.2.1.2.1.2.1,v.2.2.2.2.2.2.2.1.2.1.2.2,v.2.2.2.2.2.2.2.2.1.1.1,v.2.2.2.2.2.2.2.2.1.1.2.1,v.2.2.2.2.2.2.2.2.1.1.2.2,v.2.2.2.2.2.2.2.2.1.2.1.1,v.2.2.2.2.2.2.2.2.1.2.1.2.1,v.2.2.2.2.2.2.2.2.1.2.1.2.2⟩
 fr:=λx=>(((),((),(x.n2,(x.i2,((),((),((),((),((),()))))))))),(((),((),())),((x.w,()),(((),((),())),((x.last,()),(x.xs,(x.ys,(((x.oi_lo,x.oi_len,x.oi_cap),((x.os_lo,x.os_len,x.os_cap),())),(((x.bi_lo,x.bi_len,x.bi_cap),((x.bs_lo,x.bs_len,x.bs_cap),())),())))))))))
structure Qt where(w last:Int)(xs ys:List (Int))(oi_lo oi_len oi_cap os_lo os_len os_cap bi_lo bi_len bi_cap bs_lo bs_len bs_cap:Nat)
def X4:Pt Qt where
 own:=[]
 t:=⟨[(2000003,.c (.ptr 1 0)),(2000004,.c (.ptr 2 0)),(2000007,.c (.ptr 3 0)),(2000009,.c (.ptr 6 0)),(3000000,.c (.fn 0))],[.st [.junk,.junk] 1 0,.st [.it .u8] 1 0,.st [.junk,.junk] 1 0,.st [.it .u8] 1 0,.arr (.int .u8) 0,.arr (.int .u8) 0,.st [.slc 4 0 1,.slc 5 0 1] 1 0,.st [.slc 4 0 1,.slc 5 0 1] 1 0]⟩
 to:=λv=>⟨v.2.2.1.1,v.2.2.2.2.1.1,v.2.2.2.2.2.1,v.2.2.2.2.2.2.1,v.2.2.2.2.2.2.2.1.1.1,v.2.2.2.2.2.2.2.1.1.2.1,v.2.2.2.2.2.2.2.1.1.2.2,v.2.2.2.2.2.2.2.1.2.1.1,v.2.2.2.2.2.2.2.1.2.1.2.1,v.2.2.2.2.2.2.2.1.2.1.2.2,v.2.2.2.2.2.2.2.2.1.1.1,v.2.2.2.2.2.2.2.2.1.1.2.1,v.2.2.2.2.2.2.2.2.1.1.2.2,v.2.2.2.2.2.2.2.2.1.2.1.1,v.2.2.2.2.2.2.2.2.1.2.1.2.1,v.2.2.2.2.2.2.2.2.1.2.1.2.2⟩
 fr:=λx=>(((),((),((),((),((),()))))),(((),((),())),((x.w,()),(((),((),())),((x.last,()),(x.xs,(x.ys,(((x.oi_lo,x.oi_len,x.oi_cap),((x.os_lo,x.os_len,x.os_cap),())),(((x.bi_lo,x.bi_len,x.bi_cap),((x.bs_lo,x.bs_len,x.bs_cap),())),())))))))))
def QK(x:QM):Option (QM⊕Qt):=bif decide (x.i2<x.n2) then bif inR x.i2 x.bs_len then Q1 (Xn { v:=x.bs_lo+x.i2.toNat,w:=x.w,last:=x.last,xs:=x.xs,ys:=x.ys,oi_lo:=x.oi_lo,oi_len:=x.oi_len,oi_cap:=x.oi_cap,os_lo:=x.os_lo,os_len:=x.os_len,os_cap:=x.os_cap,bi_lo:=x.bi_lo,bi_len:=x.bi_len,bi_cap:=x.bi_cap,bs_lo:=x.bs_lo,bs_len:=x.bs_len,bs_cap:=x.bs_cap }) λy=>some (Sum.inl { n2:=x.n2,i2:=IntKind.i64.wrap (x.i2+1),w:=y.w,last:=y.last,xs:=y.xs,ys:=y.ys,oi_lo:=y.oi_lo,oi_len:=y.oi_len,oi_cap:=y.oi_cap,os_lo:=y.os_lo,os_len:=y.os_len,os_cap:=y.os_cap,bi_lo:=y.bi_lo,bi_len:=y.bi_len,bi_cap:=y.bi_cap,bs_lo:=y.bs_lo,bs_len:=y.bs_len,bs_cap:=y.bs_cap }) else none
else
 some
  (Sum.inr
   {w:=x.w,last:=x.last,xs:=x.xs,ys:=x.ys,oi_lo:=x.oi_lo,oi_len:=x.oi_len,oi_cap:=x.oi_cap,os_lo:=x.os_lo,os_len:=x.os_len,os_cap:=x.os_cap,
    bi_lo:=x.bi_lo,bi_len:=x.bi_len,bi_cap:=x.bi_cap,bs_lo:=x.bs_lo,bs_len:=x.bs_len,bs_cap:=x.bs_cap })
theorem JU(x:QM):exec X8 39 (C50.Q2 1) 2 (J0.R x) (J0.H x) (J4 0 J0 (.exit 2) X4)=QK x:=by kernel_rfl
def JY:QB:=J5 0 J0 (.exit 2) X4 QK
theorem XW:QA (C50.Q2 1) 2=[]:=by kernel_rfl
theorem JX{y:YI}(hy:Rnd R0.rA R0.rB R0.rP 57 y):QH Try.prog 39 none 0 (C50.Q2 1) JY (some y):=QQ mixed (Q7 Q9 Q6 _) (by trivial) (λ_=>rfl) (λ_=>rfl) (XW▸Q8.nil) JU (hyk:=Zb hy)
def X9:Env:=⟨ty,QJ cl,JB [(1,JY)],some (R0.rP,ub0)⟩
theorem Zc{y:YI}(hy:Rnd R0.rA R0.rB R0.rP 57 y):Qp Try.prog 0 X9 (some y):=JA rfl (by kernel_rfl) (by kernel_rfl) Qr hy
structure QN where(n i w last:Int)(xs ys:List (Int))(oi_lo oi_len oi_cap os_lo os_len os_cap bi_lo bi_len bi_cap bs_lo bs_len bs_cap:Nat)
def J1:Pt QN where
 own:=[]
 t:=⟨[(0,.c (.clo 1000000 [])),(1,.c (.ptr 7 0)),(7,.c (.it .i64)),(8,.c (.it .i64)),(2000003,.c (.ptr 1 0)),(2000004,.c (.ptr 2 0)),(2000007,.c (.ptr 3 0)),(2000009,.c (.ptr 6 0)),(3000000,.c (.fn 0))],[.st [.junk,.junk] 1 0,.st [.it .u8] 1 0,.st [.junk,.junk] 1 0,.st [.it .u8] 1 0,.arr (.int .u8) 0,.arr (.int .u8) 0,.st [.slc 4 0 1,.slc 5 0 1] 1 0,.st [.slc 4 0 1,.slc 5 0 1] 1 0]⟩
 to:=λv=>⟨v.1.2.2.1,v.1.2.2.2.1,v.2.2.1.1,v.2.2.2.2.1.1,v.2.2.2.2.2.1,v.2.2.2.2.2.2.1,v.2.2.2.2.2.2.2.1.1.1,v.2.2.2.2.2.2.2.1.1.2.1,v.2.2.2.2.2.2.2.1.1.2.2,v.2.2.2.2.2.2.2.1.2.1.1,v.2.2.2.2.2.2.2.1.2.1.2.1,v.2.2.2.2.2.2.2.1.2.1.2.2,v.2.2.2.2.2.2.2.2.1.1.1,v.2.2.2.2.2.2.2.2.1.1.2.1,v.2.2.2.2.2.2.2.2.1.1.2.2,v.2.2.2.2.2.2.2.2.1.2.1.1,v.2.2.2.2.2.2.2.2.1.2.1.2.1,v.2.2.2.2.2.2.2.2.1.2.1.2.2⟩
 fr:=λx=>(((),((),(x.n,(x.i,((),((),((),((),((),()))))))))),(((),((),())),((x.w,()),(((),((),())),((x.last,()),(x.xs,(x.ys,(((x.oi_lo,x.oi_len,x.oi_cap),((x.os_lo,x.os_len,x.os_cap),())),(((x.bi_lo,x.bi_len,x.bi_cap),((x.bs_lo,x.bs_len,x.bs_cap),())),())))))))))
structure Qu where(w last:Int)(xs ys:List (Int))(oi_lo oi_len oi_cap os_lo os_len os_cap bi_lo bi_len bi_cap bs_lo bs_len bs_cap:Nat)
def X5:Pt Qu where
 own:=[]
 t:=⟨[(0,.c (.clo 1000000 [])),(1,.c (.ptr 7 0)),(2000003,.c (.ptr 1 0)),(2000004,.c (.ptr 2 0)),(2000007,.c (.ptr 3 0)),(2000009,.c (.ptr 6 0)),(3000000,.c (.fn 0))],[.st [.junk,.junk] 1 0,.st [.it .u8] 1 0,.st [.junk,.junk] 1 0,.st [.it .u8] 1 0,.arr (.int .u8) 0,.arr (.int .u8) 0,.st [.slc 4 0 1,.slc 5 0 1] 1 0,.st [.slc 4 0 1,.slc 5 0 1] 1 0]⟩
 to:=λv=>⟨v.2.2.1.1,v.2.2.2.2.1.1,v.2.2.2.2.2.1,v.2.2.2.2.2.2.1,v.2.2.2.2.2.2.2.1.1.1,v.2.2.2.2.2.2.2.1.1.2.1,v.2.2.2.2.2.2.2.1.1.2.2,v.2.2.2.2.2.2.2.1.2.1.1,v.2.2.2.2.2.2.2.1.2.1.2.1,v.2.2.2.2.2.2.2.1.2.1.2.2,v.2.2.2.2.2.2.2.2.1.1.1,v.2.2.2.2.2.2.2.2.1.1.2.1,v.2.2.2.2.2.2.2.2.1.1.2.2,v.2.2.2.2.2.2.2.2.1.2.1.1,v.2.2.2.2.2.2.2.2.1.2.1.2.1,v.2.2.2.2.2.2.2.2.1.2.1.2.2⟩
 fr:=λx=>(((),((),((),((),((),((),((),()))))))),(((),((),())),((x.w,()),(((),((),())),((x.last,()),(x.xs,(x.ys,(((x.oi_lo,x.oi_len,x.oi_cap),((x.os_lo,x.os_len,x.os_cap),())),(((x.bi_lo,x.bi_len,x.bi_cap),((x.bs_lo,x.bs_len,x.bs_cap),())),())))))))))
def QL(x:QN):Option (QN⊕Qu):=bif decide (x.i<x.n) then bif inR x.i x.bi_len then Q1 (Xo { v:=x.bi_lo+x.i.toNat,w:=x.w,last:=x.last,xs:=x.xs,ys:=x.ys,oi_lo:=x.oi_lo,oi_len:=x.oi_len,oi_cap:=x.oi_cap,os_lo:=x.os_lo,os_len:=x.os_len,os_cap:=x.os_cap,bi_lo:=x.bi_lo,bi_len:=x.bi_len,bi_cap:=x.bi_cap,bs_lo:=x.bs_lo,bs_len:=x.bs_len,bs_cap:=x.bs_cap }) λy=>some (Sum.inl { n:=x.n,i:=IntKind.i64.wrap (x.i+1),w:=y.w,last:=y.last,xs:=y.xs,ys:=y.ys,oi_lo:=y.oi_lo,oi_len:=y.oi_len,oi_cap:=y.oi_cap,os_lo:=y.os_lo,os_len:=y.os_len,os_cap:=y.os_cap,bi_lo:=y.bi_lo,bi_len:=y.bi_len,bi_cap:=y.bi_cap,bs_lo:=y.bs_lo,bs_len:=y.bs_len,bs_cap:=y.bs_cap }) else none
else
 some
  (Sum.inr
   {w:=x.w,last:=x.last,xs:=x.xs,ys:=x.ys,oi_lo:=x.oi_lo,oi_len:=x.oi_len,oi_cap:=x.oi_cap,os_lo:=x.os_lo,os_len:=x.os_len,os_cap:=x.os_cap,
    bi_lo:=x.bi_lo,bi_len:=x.bi_len,bi_cap:=x.bi_cap,bs_lo:=x.bs_lo,bs_len:=x.bs_len,bs_cap:=x.bs_cap })
theorem JW(x:QN):exec X9 39 (C50.Q2 0) 1 (J1.R x) (J1.H x) (J4 0 J1 (.exit 0) X5)=QL x:=by kernel_rfl
def X6:QB:=J5 0 J1 (.exit 0) X5 QL
theorem XX:QA (C50.Q2 0) 1=[]:=by kernel_rfl
theorem JZ{y:YI}(hy:Rnd R0.rA R0.rB R0.rP 57 y):QH Try.prog 39 none 0 (C50.Q2 0) X6 (some y):=QQ mixed (Q7 Q9 Q6 _) (by trivial) (λ_=>rfl) (λ_=>rfl) (XX▸Q8.nil) JW (hyk:=Zc hy)
def XA:Env:=⟨ty,QJ cl,JB [(0,X6),(1,JY)],some (R0.rP,ub0)⟩
theorem Zd{y:YI}(hy:Rnd R0.rA R0.rB R0.rP 57 y):Qp Try.prog 0 XA (some y):=JA rfl (by kernel_rfl) (by kernel_rfl) Qr hy
structure p0X where(w last:Int)(xs ys:List (Int))(oi_lo oi_len oi_cap os_lo os_len os_cap bi_lo bi_len bi_cap bs_lo bs_len bs_cap:Nat)
def p0:Pt p0X where
 own:=[]
 t:=⟨[(3,.c (.ptr 1 0)),(4,.c (.ptr 2 0)),(7,.c (.ptr 3 0)),(9,.c (.ptr 6 0)),(39,.c (.clo 50 [⟨7,0,0⟩]))],[.st [.junk,.junk] 1 0,.st [.it .u8] 1 0,.st [.junk,.junk] 1 0,.st [.it .u8] 1 0,.arr (.int .u8) 0,.arr (.int .u8) 0,.st [.slc 4 0 1,.slc 5 0 1] 1 0,.st [.slc 4 0 1,.slc 5 0 1] 1 0]⟩
 to:=λv=>⟨v.2.2.1.1,v.2.2.2.2.1.1,v.2.2.2.2.2.1,v.2.2.2.2.2.2.1,v.2.2.2.2.2.2.2.1.1.1,v.2.2.2.2.2.2.2.1.1.2.1,v.2.2.2.2.2.2.2.1.1.2.2,v.2.2.2.2.2.2.2.1.2.1.1,v.2.2.2.2.2.2.2.1.2.1.2.1,v.2.2.2.2.2.2.2.1.2.1.2.2,v.2.2.2.2.2.2.2.2.1.1.1,v.2.2.2.2.2.2.2.2.1.1.2.1,v.2.2.2.2.2.2.2.2.1.1.2.2,v.2.2.2.2.2.2.2.2.1.2.1.1,v.2.2.2.2.2.2.2.2.1.2.1.2.1,v.2.2.2.2.2.2.2.2.1.2.1.2.2⟩
 fr:=λx=>(((),((),((),((),((),()))))),(((),((),())),((x.w,()),(((),((),())),((x.last,()),(x.xs,(x.ys,(((x.oi_lo,x.oi_len,x.oi_cap),((x.os_lo,x.os_len,x.os_cap),())),(((x.bi_lo,x.bi_len,x.bi_cap),((x.bs_lo,x.bs_len,x.bs_cap),())),())))))))))
structure q0X where(w last:Int)(xs ys:List (Int))(oi_lo oi_len oi_cap os_lo os_len os_cap bi_lo bi_len bi_cap bs_lo bs_len bs_cap:Nat)
def q0:Pt q0X where
 own:=[]
 t:=⟨[(3,.c (.ptr 1 0)),(4,.c (.ptr 2 0)),(7,.c (.ptr 3 0)),(9,.c (.ptr 6 0))],[.st [.junk,.junk] 1 0,.st [.it .u8] 1 0,.st [.junk,.junk] 1 0,.st [.it .u8] 1 0,.arr (.int .u8) 0,.arr (.int .u8) 0,.st [.slc 4 0 1,.slc 5 0 1] 1 0,.st [.slc 4 0 1,.slc 5 0 1] 1 0]⟩
 to:=λv=>⟨v.2.2.1.1,v.2.2.2.2.1.1,v.2.2.2.2.2.1,v.2.2.2.2.2.2.1,v.2.2.2.2.2.2.2.1.1.1,v.2.2.2.2.2.2.2.1.1.2.1,v.2.2.2.2.2.2.2.1.1.2.2,v.2.2.2.2.2.2.2.1.2.1.1,v.2.2.2.2.2.2.2.1.2.1.2.1,v.2.2.2.2.2.2.2.1.2.1.2.2,v.2.2.2.2.2.2.2.2.1.1.1,v.2.2.2.2.2.2.2.2.1.1.2.1,v.2.2.2.2.2.2.2.2.1.1.2.2,v.2.2.2.2.2.2.2.2.1.2.1.1,v.2.2.2.2.2.2.2.2.1.2.1.2.1,v.2.2.2.2.2.2.2.2.1.2.1.2.2⟩
 fr:=λx=>(((),((),((),((),())))),(((),((),())),((x.w,()),(((),((),())),((x.last,()),(x.xs,(x.ys,(((x.oi_lo,x.oi_len,x.oi_cap),((x.os_lo,x.os_len,x.os_cap),())),(((x.bi_lo,x.bi_len,x.bi_cap),((x.bs_lo,x.bs_len,x.bs_cap),())),())))))))))
def s0(x:p0X):Option q0X:=Q1 (iter QL ⟨(↑x.bi_len:Int),0,x.w,x.last,x.xs,x.ys,x.oi_lo,x.oi_len,x.oi_cap,x.os_lo,x.os_len,x.os_cap,x.bi_lo,x.bi_len,x.bi_cap,x.bs_lo,x.bs_len,x.bs_cap⟩) λy=>Q1 (iter QK ⟨(↑y.bs_len:Int),0,y.w,y.last,y.xs,y.ys,y.oi_lo,y.oi_len,y.oi_cap,y.os_lo,y.os_len,y.os_cap,y.bi_lo,y.bi_len,y.bi_cap,y.bs_lo,y.bs_len,y.bs_cap⟩) λy=>some ⟨y.w,y.last,y.xs,y.ys,y.oi_lo,y.oi_len,y.oi_cap,y.os_lo,y.os_len,y.os_cap,y.bi_lo,y.bi_len,y.bi_cap,y.bs_lo,y.bs_len,y.bs_cap⟩
theorem Qd(x:p0X):ZA XA 39 C50 50 R0.rF (p0.R x) (p0.H x) (Xz (Zy 0 q0))=s0 x:=by kernel_rfl
def l0:QB:=mkUnit 0 p0 q0 s0
theorem ti0:QA C50 0=[(0,C50.Q2 0),(1,C50.Q2 1)]:=by kernel_rfl
theorem Qe:Z3 Try.prog 57 0 R0.rF R0.rP R0.rA R0.rB l0:=Zh mixed (Q7 Q9 Q6 _) (λhy=>Zd hy) s50 (by kernel_rfl) (λhy=>ti0▸(Q8.cons rfl (JZ hy) (Q8.cons rfl (JX hy) Q8.nil))) (λ_=>rfl) (λ_=>rfl) Qd
def E0:Env:=⟨ty,QJ cl,JB [(0,l0)],none⟩
theorem ur:Kn C19 0=[(0,R0)]:=by kernel_rfl
def m(x:gX):Option fY:=Q1 (M29.m ⟨x.i,x.s⟩) λy=>bif y !=0 then some ([],[],y) else bif x.w==0 then Q1 (M34.m ⟨x.i,x.s⟩) λy=>Q1 (M36o.m ⟨y.1,y.2.1,y.2.2.1,y.2.2.2.1,y.2.2.2.2.1,y.2.2.2.2.2.1,y.2.2.2.2.2.2.1,y.2.2.2.2.2.2.2⟩) λy_1=>Q1 (s0 ⟨x.w,0,y_1.1,y_1.2.1,y.1,y.2.1,y.2.2.1,y.2.2.2.1,y.2.2.2.2.1,y.2.2.2.2.2.1,y_1.2.2.1,y_1.2.2.2.1,y_1.2.2.2.2.1,y_1.2.2.2.2.2.1,y_1.2.2.2.2.2.2.1,y_1.2.2.2.2.2.2.2⟩) λy=>bif leB (y.oi_lo+y.oi_len) y.xs.length&&(leB (y.os_lo+y.os_len) y.ys.length&&true)&&true&&true&&true then some (List.take y.oi_len (List.drop y.oi_lo y.xs),List.take y.os_len (List.drop y.os_lo y.ys),0) else none else bif x.w==1 then Q1 (M34.m ⟨x.i,x.s⟩) λy=>Q1 (M36o.m ⟨y.1,y.2.1,y.2.2.1,y.2.2.2.1,y.2.2.2.2.1,y.2.2.2.2.2.1,y.2.2.2.2.2.2.1,y.2.2.2.2.2.2.2⟩) λy_1=>Q1 (s0 ⟨x.w,1,y_1.1,y_1.2.1,y.1,y.2.1,y.2.2.1,y.2.2.2.1,y.2.2.2.2.1,y.2.2.2.2.2.1,y_1.2.2.1,y_1.2.2.2.1,y_1.2.2.2.2.1,y_1.2.2.2.2.2.1,y_1.2.2.2.2.2.2.1,y_1.2.2.2.2.2.2.2⟩) λy=>bif leB (y.oi_lo+y.oi_len) y.xs.length&&(leB (y.os_lo+y.os_len) y.ys.length&&true)&&true&&true&&true then some (List.take y.oi_len (List.drop y.oi_lo y.xs),List.take y.os_len (List.drop y.os_lo y.ys),0) else none else bif x.w==2 then Q1 (M35.m ⟨x.i,x.s⟩) λy=>Q1 (M40.m ⟨y⟩) λy=>bif decide (y>=0) then Q1 (M35.m ⟨x.i,x.s⟩) λy_1=>bif inR y (List.length y_1) then Q1 (M34.m ⟨x.i,x.s⟩) λy_2=>Q1 (M36o.m ⟨y_2.1,y_2.2.1,y_2.2.2.1,y_2.2.2.2.1,y_2.2.2.2.2.1,y_2.2.2.2.2.2.1,y_2.2.2.2.2.2.2.1,y_2.2.2.2.2.2.2.2⟩) λy_3=>Q1 (s0 ⟨x.w,y_1[Int.toNat y]?.getD 0,y_3.1,y_3.2.1,y_2.1,y_2.2.1,y_2.2.2.1,y_2.2.2.2.1,y_2.2.2.2.2.1,y_2.2.2.2.2.2.1,y_3.2.2.1,y_3.2.2.2.1,y_3.2.2.2.2.1,y_3.2.2.2.2.2.1,y_3.2.2.2.2.2.2.1,y_3.2.2.2.2.2.2.2⟩) λy=>bif leB (y.oi_lo+y.oi_len) y.xs.length&&(leB (y.os_lo+y.os_len) y.ys.length&&true)&&true&&true&&true then some (List.take y.oi_len (List.drop y.oi_lo y.xs),List.take y.os_len (List.drop y.os_lo y.ys),0) else none else none else Q1 (M34.m ⟨x.i,x.s⟩) λy=>Q1 (M36o.m ⟨y.1,y.2.1,y.2.2.1,y.2.2.2.1,y.2.2.2.2.1,y.2.2.2.2.2.1,y.2.2.2.2.2.2.1,y.2.2.2.2.2.2.2⟩) λy_1=>Q1 (s0 ⟨x.w,0,y_1.1,y_1.2.1,y.1,y.2.1,y.2.2.1,y.2.2.2.1,y.2.2.2.2.1,y.2.2.2.2.2.1,y_1.2.2.1,y_1.2.2.2.1,y_1.2.2.2.2.1,y_1.2.2.2.2.2.1,y_1.2.2.2.2.2.2.1,y_1.2.2.2.2.2.2.2⟩) λy=>bif leB (y.oi_lo+y.oi_len) y.xs.length&&(leB (y.os_lo+y.os_len) y.ys.length&&true)&&true&&true&&true then some (List.take y.oi_len (List.drop y.oi_lo y.xs),List.take y.os_len (List.drop y.os_lo y.ys),0) else none else some ([],[],1)
theorem QW(x:gX):exec E0 57 C19 0 (QX 0 (g.A x)) (g.H x) (finish 0 ty [.cell 4 29,.tmp 5] f)=m x:=by kernel_rfl
theorem tl:QA C19 0=[]:=by kernel_rfl
theorem known:QV Try.prog 19 g f m:=
 QD mixed (Q7 Q9 Q6 _) s19 rfl rfl tl Q8.nil (λ_ _=>⟨rfl,rfl⟩) (λ_ _=>⟨rfl,rfl⟩) QW (hg:=Jx.of rfl (ur▸(Zs.cons rfl (by kernel_rfl) Qe Zs.nil)))
def con:Con:=XI g f m default
theorem Q5:Qk Try.prog 19 con:=Qa known (λ_=>rfl) rfl
end M19
namespace M47
structure gX where(s sep:List UInt8)
def g:Sg gX:=⟨[.c (.sg),.c (.sg)],[],λa b=>⟨a.1,a.2.1⟩,λx=>(x.s,(x.sep,())),λx=>()⟩
abbrev fY:=List UInt8×List UInt8×Bool
def f:Ft fY:=⟨none,.tup [.inl (.sg),.inl (.sg),.inl (.bo)],[],λa b=>(a.1,a.2.1,a.2.2.1),λy=>(y.1,(y.2.1,(y.2.2,()))),λy=>()⟩
def cl:List (FuncId×Con):=[(53,M53.con)]
theorem Q6:QT Try.prog cl:=⟨M53.Q5,trivial⟩
def E0:Env:=⟨ty,QJ cl,λ_=>none,none⟩
def m(x:gX):Option fY:=Q1 (M53.m ⟨x.s,x.sep⟩) λy=>some (y.1,y.2.1,y.2.2)
theorem QW(x:gX):exec E0 13 C47 0 (QX 0 (g.A x)) (g.H x) (finish 0 ty [.tmp 4,.tmp 5,.tmp 6] f)=m x:=by kernel_rfl
theorem tl:QA C47 0=[]:=by kernel_rfl
theorem known:QV Try.prog 47 g f m:=
 QD mixed (Q7 Q9 Q6 _) s47 rfl rfl tl Q8.nil (λ_ _=>⟨rfl,rfl⟩) (λ_ _=>⟨rfl,rfl⟩) QW
def con:Con:=XI g f m default
theorem Q5:Qk Try.prog 47 con:=Qa known (λ_=>rfl) rfl
end M47
namespace M27
structure gX where(s:List UInt8)
def g:Sg gX:=⟨[.c (.sg)],[],λa b=>⟨a.1⟩,λx=>(x.s,()),λx=>()⟩
abbrev fY:=List (Int)×List (Int)×Int
def f:Ft fY:=⟨none,.tup [.inr [.arr (.int .u8),.arr (.int .u8)],.inl (.it .i64)],[],λa b=>(a.1.1,a.1.2.1,a.2.1),λy=>((y.1,(y.2.1,())),(y.2.2,())),λy=>()⟩
def cl:List (FuncId×Con):=[(47,M47.con),(36,M36o.con),(48,M48.con)]
theorem Q6:QT Try.prog cl:=⟨M47.Q5,M36o.Q5,M48.Q5,trivial⟩
def R0:CC:=C27.Zf 0
def Xl:Env:=⟨ty,QJ cl,λ_=>none,none⟩
structure XT where(i:Int)(v:Nat)(ri rs:List (Int))(e:Int)(left right:List UInt8)(xs ys:List (Int))(oi_lo oi_len oi_cap os_lo os_len os_cap bi_lo bi_len bi_cap bs_lo bs_len bs_cap:Nat)
def Ke:Pt XT where
 own:=[]
 t:=⟨[(2,.c (.ptr 0 0)),(3,.c (.ptr 1 0)),(4,.c (.ptr 2 0)),(5,.c (.ptr 3 0)),(7,.c (.ptr 6 0)),(33,.c (.it .i64)),(34,.c (.el 4 0 1 0)),(1000000,.c (.clo 1000000 [])),(1000001,.c (.ptr 7 0)),(2000002,.c (.ptr 0 0)),(2000003,.c (.ptr 1 0)),(2000004,.c (.ptr 2 0)),(2000005,.c (.ptr 3 0)),(2000007,.c (.ptr 6 0))],[.st [.arr (.int .u8),.arr (.int .u8)] 1 0,.st [.it .i64] 1 0,.st [.sg] 1 0,.st [.sg] 1 0,.arr (.int .u8) 0,.arr (.int .u8) 0,.st [.slc 4 0 1,.slc 5 0 1] 1 0,.st [.slc 4 0 1,.slc 5 0 1] 1 0]⟩
 to:=λv=>⟨v.1.2.2.2.2.2.1,v.1.2.2.2.2.2.2.1,v.2.1.1,v.2.1.2.1,v.2.2.1.1,v.2.2.2.1.1,v.2.2.2.2.1.1,v.2.2.2.2.2.1,v.2.2.2.2.2.2.1,v.2.2.2.2.2.2.2.1.1.1,v.2.2.2.2.2.2.2.1.1.2.1,v.2.2.2.2.2.2.2.1.1.2.2,v.2.2.2.2.2.2.2.1.2.1.1,v.2.2.2.2.2.2.2.1.2.1.2.1,v.2.2.2.2.2.2.2.1.2.1.2.2,v.2.2.2.2.2.2.2.2.1.1.1,v.2.2.2.2.2.2.2.2.1.1.2.1,v.2.2.2.2.2.2.2.2.1.1.2.2,v.2.2.2.2.2.2.2.2.1.2.1.1,v.2.2.2.2.2.2.2.2.1.2.1.2.1,v.2.2.2.2.2.2.2.2.1.2.1.2.2⟩
 fr:=λx=>(((),((),((),((),((),(x.i,(x.v,((),((),((),((),((),((),((),())))))))))))))),((x.ri,(x.rs,())),((x.e,()),((x.left,()),((x.right,()),(x.xs,(x.ys,(((x.oi_lo,x.oi_len,x.oi_cap),((x.os_lo,x.os_len,x.os_cap),())),(((x.bi_lo,x.bi_len,x.bi_cap),((x.bs_lo,x.bs_len,x.bs_cap),())),())))))))))
structure ZG where(ri rs:List (Int))(e:Int)(left right:List UInt8)(xs ys:List (Int))(oi_lo oi_len oi_cap os_lo os_len os_cap bi_lo bi_len bi_cap bs_lo bs_len bs_cap:Nat)
def VF:Pt ZG where
 own:=[]
 t:=⟨[(1000000,.c (.clo 1000000 [])),(1000001,.c (.ptr 7 0)),(2000002,.c (.ptr 0 0)),(2000003,.c (.ptr 1 0)),(2000004,.c (.ptr 2 0)),(2000005,.c (.ptr 3 0)),(2000007,.c (.ptr 6 0))],[.st [.arr (.int .u8),.arr (.int .u8)] 1 0,.st [.it .i64] 1 0,.st [.sg] 1 0,.st [.sg] 1 0,.arr (.int .u8) 0,.arr (.int .u8) 0,.st [.slc 4 0 1,.slc 5 0 1] 1 0,.st [.slc 4 0 1,.slc 5 0 1] 1 0]⟩
 to:=λv=>⟨v.2.1.1,v.2.1.2.1,v.2.2.1.1,v.2.2.2.1.1,v.2.2.2.2.1.1,v.2.2.2.2.2.1,v.2.2.2.2.2.2.1,v.2.2.2.2.2.2.2.1.1.1,v.2.2.2.2.2.2.2.1.1.2.1,v.2.2.2.2.2.2.2.1.1.2.2,v.2.2.2.2.2.2.2.1.2.1.1,v.2.2.2.2.2.2.2.1.2.1.2.1,v.2.2.2.2.2.2.2.1.2.1.2.2,v.2.2.2.2.2.2.2.2.1.1.1,v.2.2.2.2.2.2.2.2.1.1.2.1,v.2.2.2.2.2.2.2.2.1.1.2.2,v.2.2.2.2.2.2.2.2.1.2.1.1,v.2.2.2.2.2.2.2.2.1.2.1.2.1,v.2.2.2.2.2.2.2.2.1.2.1.2.2⟩
 fr:=λx=>(((),((),((),((),((),((),((),()))))))),((x.ri,(x.rs,())),((x.e,()),((x.left,()),((x.right,()),(x.xs,(x.ys,(((x.oi_lo,x.oi_len,x.oi_cap),((x.os_lo,x.os_len,x.os_cap),())),(((x.bi_lo,x.bi_len,x.bi_cap),((x.bs_lo,x.bs_len,x.bs_cap),())),())))))))))
structure bz0aX where(ri rs:List (Int))(e:Int)(left right:List UInt8)(xs ys:List (Int))(oi_lo oi_len oi_cap os_lo os_len os_cap bi_lo bi_len bi_cap bs_lo bs_len bs_cap:Nat)
def bz0a:Pt bz0aX where
 own:=[]
 t:=⟨[(1000000,.c (.clo 1000000 [])),(1000001,.c (.ptr 7 0)),(2000002,.c (.ptr 0 0)),(2000003,.c (.ptr 1 0)),(2000004,.c (.ptr 2 0)),(2000005,.c (.ptr 3 0)),(2000007,.c (.ptr 6 0))],[.st [.arr (.int .u8),.arr (.int .u8)] 1 0,.st [.it .i64] 1 0,.st [.sg] 1 0,.st [.sg] 1 0,.arr (.int .u8) 0,.arr (.int .u8) 0,.st [.slc 4 0 1,.slc 5 0 1] 1 0,.st [.slc 4 0 1,.slc 5 0 1] 1 0]⟩
 to:=λv=>⟨v.2.1.1,v.2.1.2.1,v.2.2.1.1,v.2.2.2.1.1,v.2.2.2.2.1.1,v.2.2.2.2.2.1,v.2.2.2.2.2.2.1,v.2.2.2.2.2.2.2.1.1.1,v.2.2.2.2.2.2.2.1.1.2.1,v.2.2.2.2.2.2.2.1.1.2.2,v.2.2.2.2.2.2.2.1.2.1.1,v.2.2.2.2.2.2.2.1.2.1.2.1,v.2.2.2.2.2.2.2.1.2.1.2.2,v.2.2.2.2.2.2.2.2.1.1.1,v.2.2.2.2.2.2.2.2.1.1.2.1,v.2.2.2.2.2.2.2.2.1.1.2.2,v.2.2.2.2.2.2.2.2.1.2.1.1,v.2.2.2.2.2.2.2.2.1.2.1.2.1,v.2.2.2.2.2.2.2.2.1.2.1.2.2⟩
 fr:=λx=>(((),((),((),((),((),((),((),()))))))),((x.ri,(x.rs,())),((x.e,()),((x.left,()),((x.right,()),(x.xs,(x.ys,(((x.oi_lo,x.oi_len,x.oi_cap),((x.os_lo,x.os_len,x.os_cap),())),(((x.bi_lo,x.bi_len,x.bi_cap),((x.bs_lo,x.bs_len,x.bs_cap),())),())))))))))
def Xo(x:XT):Option (ZG⊕bz0aX):=bif leB (x.left.length+x.right.length) 9223372036854775807 then bif inR x.i (x.left++x.right).length then Q1 (M48.m { s:=[48,49,88],c:=J8 (x.left++x.right) x.i.toNat }) λy=>bif decide (y<0) then some (Sum.inr { ri:=[],rs:=[],e:=4,left:=x.left,right:=x.right,xs:=x.xs,ys:=x.ys,oi_lo:=x.oi_lo,oi_len:=x.oi_len,oi_cap:=x.oi_cap,os_lo:=x.os_lo,os_len:=x.os_len,os_cap:=x.os_cap,bi_lo:=x.bi_lo,bi_len:=x.bi_len,bi_cap:=x.bi_cap,bs_lo:=x.bs_lo,bs_len:=x.bs_len,bs_cap:=x.bs_cap }) else bif decide (x.v<x.xs.length) then some (Sum.inl { ri:=x.ri,rs:=x.rs,e:=x.e,left:=x.left,right:=x.right,xs:=x.xs.set x.v (IntKind.u8.wrap y),ys:=x.ys,oi_lo:=x.oi_lo,oi_len:=x.oi_len,oi_cap:=x.oi_cap,os_lo:=x.os_lo,os_len:=x.os_len,os_cap:=x.os_cap,bi_lo:=x.bi_lo,bi_len:=x.bi_len,bi_cap:=x.bi_cap,bs_lo:=x.bs_lo,bs_len:=x.bs_len,bs_cap:=x.bs_cap }) else none else none
else none
theorem Y9(x:XT):JE Xl 49 R0.rA R0.rB (Ke.R x) (Ke.H x) (qL 0 VF .ret bz0a)=Xo x:=by kernel_rfl
def Ua:QB:=KP 0 Ke VF .ret bz0a Xo
theorem ta0a:QA R0.rA 0=[]:=by kernel_rfl
theorem tb0a:QA R0.rB R0.rA.nl=[]:=by kernel_rfl
theorem Y5{y:YI}(hy:Rnd R0.rA R0.rB R0.rP 49 y):J2 Try.prog 49 0 y.assign y.body Ua:=UD mixed (Q7 Q9 Q6 _) rfl ⟨by kernel_rfl,by kernel_rfl⟩ (λ_=>rfl) (λ_=>rfl) (λ_=>rfl) (λ_=>ta0a▸Q8.nil) (λl=>tb0a▸Q8.nil) Y9 hy
structure XS where(i:Int)(v:Nat)(ri rs:List (Int))(e:Int)(left right:List UInt8)(xs ys:List (Int))(oi_lo oi_len oi_cap os_lo os_len os_cap bi_lo bi_len bi_cap bs_lo bs_len bs_cap:Nat)
def Kb:Pt XS where
 own:=[]
 t:=⟨[(2,.c (.ptr 0 0)),(3,.c (.ptr 1 0)),(4,.c (.ptr 2 0)),(5,.c (.ptr 3 0)),(7,.c (.ptr 6 0)),(33,.c (.it .i64)),(34,.c (.el 5 0 1 0)),(1000000,.c (.clo 1000000 [])),(1000001,.c (.ptr 7 0)),(2000002,.c (.ptr 0 0)),(2000003,.c (.ptr 1 0)),(2000004,.c (.ptr 2 0)),(2000005,.c (.ptr 3 0)),(2000007,.c (.ptr 6 0))],[.st [.arr (.int .u8),.arr (.int .u8)] 1 0,.st [.it .i64] 1 0,.st [.sg] 1 0,.st [.sg] 1 0,.arr (.int .u8) 0,.arr (.int .u8) 0,.st [.slc 4 0 1,.slc 5 0 1] 1 0,.st [.slc 4 0 1,.slc 5 0 1] 1 0]⟩
 to:=λv=>⟨v.1.2.2.2.2.2.1,v.1.2.2.2.2.2.2.1,v.2.1.1,v.2.1.2.1,v.2.2.1.1,v.2.2.2.1.1,v.2.2.2.2.1.1,v.2.2.2.2.2.1,v.2.2.2.2.2.2.1,v.2.2.2.2.2.2.2.1.1.1,v.2.2.2.2.2.2.2.1.1.2.1,v.2.2.2.2.2.2.2.1.1.2.2,v.2.2.2.2.2.2.2.1.2.1.1,v.2.2.2.2.2.2.2.1.2.1.2.1,v.2.2.2.2.2.2.2.1.2.1.2.2,v.2.2.2.2.2.2.2.2.1.1.1,v.2.2.2.2.2.2.2.2.1.1.2.1,v.2.2.2.2.2.2.2.2.1.1.2.2,v.2.2.2.2.2.2.2.2.1.2.1.1,v.2.2.2.2.2.2.2.2.1.2.1.2.1,v.2.2.2.2.2.2.2.2.1.2.1.2.2⟩
 fr:=λx=>(((),((),((),((),((),(x.i,(x.v,((),((),((),((),((),((),((),())))))))))))))),((x.ri,(x.rs,())),((x.e,()),((x.left,()),((x.right,()),(x.xs,(x.ys,(((x.oi_lo,x.oi_len,x.oi_cap),((x.os_lo,x.os_len,x.os_cap),())),(((x.bi_lo,x.bi_len,x.bi_cap),((x.bs_lo,x.bs_len,x.bs_cap),())),())))))))))
structure ZF where(ri rs:List (Int))(e:Int)(left right:List UInt8)(xs ys:List (Int))(oi_lo oi_len oi_cap os_lo os_len os_cap bi_lo bi_len bi_cap bs_lo bs_len bs_cap:Nat)
def VE:Pt ZF where
 own:=[]
 t:=⟨[(1000000,.c (.clo 1000000 [])),(1000001,.c (.ptr 7 0)),(2000002,.c (.ptr 0 0)),(2000003,.c (.ptr 1 0)),(2000004,.c (.ptr 2 0)),(2000005,.c (.ptr 3 0)),(2000007,.c (.ptr 6 0))],[.st [.arr (.int .u8),.arr (.int .u8)] 1 0,.st [.it .i64] 1 0,.st [.sg] 1 0,.st [.sg] 1 0,.arr (.int .u8) 0,.arr (.int .u8) 0,.st [.slc 4 0 1,.slc 5 0 1] 1 0,.st [.slc 4 0 1,.slc 5 0 1] 1 0]⟩
 to:=λv=>⟨v.2.1.1,v.2.1.2.1,v.2.2.1.1,v.2.2.2.1.1,v.2.2.2.2.1.1,v.2.2.2.2.2.1,v.2.2.2.2.2.2.1,v.2.2.2.2.2.2.2.1.1.1,v.2.2.2.2.2.2.2.1.1.2.1,v.2.2.2.2.2.2.2.1.1.2.2,v.2.2.2.2.2.2.2.1.2.1.1,v.2.2.2.2.2.2.2.1.2.1.2.1,v.2.2.2.2.2.2.2.1.2.1.2.2,v.2.2.2.2.2.2.2.2.1.1.1,v.2.2.2.2.2.2.2.2.1.1.2.1,v.2.2.2.2.2.2.2.2.1.1.2.2,v.2.2.2.2.2.2.2.2.1.2.1.1,v.2.2.2.2.2.2.2.2.1.2.1.2.1,v.2.2.2.2.2.2.2.2.1.2.1.2.2⟩
 fr:=λx=>(((),((),((),((),((),((),((),()))))))),((x.ri,(x.rs,())),((x.e,()),((x.left,()),((x.right,()),(x.xs,(x.ys,(((x.oi_lo,x.oi_len,x.oi_cap),((x.os_lo,x.os_len,x.os_cap),())),(((x.bi_lo,x.bi_len,x.bi_cap),((x.bs_lo,x.bs_len,x.bs_cap),())),())))))))))
structure bz0bX where(ri rs:List (Int))(e:Int)(left right:List UInt8)(xs ys:List (Int))(oi_lo oi_len oi_cap os_lo os_len os_cap bi_lo bi_len bi_cap bs_lo bs_len bs_cap:Nat)
def bz0b:Pt bz0bX where
 own:=[]
 t:=⟨[(1000000,.c (.clo 1000000 [])),(1000001,.c (.ptr 7 0)),(2000002,.c (.ptr 0 0)),(2000003,.c (.ptr 1 0)),(2000004,.c (.ptr 2 0)),(2000005,.c (.ptr 3 0)),(2000007,.c (.ptr 6 0))],[.st [.arr (.int .u8),.arr (.int .u8)] 1 0,.st [.it .i64] 1 0,.st [.sg] 1 0,.st [.sg] 1 0,.arr (.int .u8) 0,.arr (.int .u8) 0,.st [.slc 4 0 1,.slc 5 0 1] 1 0,.st [.slc 4 0 1,.slc 5 0 1] 1 0]⟩
 to:=λv=>⟨v.2.1.1,v.2.1.2.1,v.2.2.1.1,v.2.2.2.1.1,v.2.2.2.2.1.1,v.2.2.2.2.2.1,v.2.2.2.2.2.2.1,v.2.2.2.2.2.2.2.1.1.1,v.2.2.2.2.2.2.2.1.1.2.1,v.2.2.2.2.2.2.2.1.1.2.2,v.2.2.2.2.2.2.2.1.2.1.1,v.2.2.2.2.2.2.2.1.2.1.2.1,v.2.2.2.2.2.2.2.1.2.1.2.2,v.2.2.2.2.2.2.2.2.1.1.1,v.2.2.2.2.2.2.2.2.1.1.2.1,v.2.2.2.2.2.2.2.2.1.1.2.2,v.2.2.2.2.2.2.2.2.1.2.1.1,v.2.2.2.2.2.2.2.2.1.2.1.2.1,v.2.2.2.2.2.2.2.2.1.2.1.2.2⟩
 fr:=λx=>(((),((),((),((),((),((),((),()))))))),((x.ri,(x.rs,())),((x.e,()),((x.left,()),((x.right,()),(x.xs,(x.ys,(((x.oi_lo,x.oi_len,x.oi_cap),((x.os_lo,x.os_len,x.os_cap),())),(((x.bi_lo,x.bi_len,x.bi_cap),((x.bs_lo,x.bs_len,x.bs_cap),())),())))))))))
def Xn(x:XS):Option (ZF⊕bz0bX):=bif leB (x.left.length+x.right.length) 9223372036854775807 then bif inR x.i (x.left++x.right).length then Q1 (M48.m { s:=[48,49,88],c:=J8 (x.left++x.right) x.i.toNat }) λy=>bif decide (y<0) then some (Sum.inr { ri:=[],rs:=[],e:=4,left:=x.left,right:=x.right,xs:=x.xs,ys:=x.ys,oi_lo:=x.oi_lo,oi_len:=x.oi_len,oi_cap:=x.oi_cap,os_lo:=x.os_lo,os_len:=x.os_len,os_cap:=x.os_cap,bi_lo:=x.bi_lo,bi_len:=x.bi_len,bi_cap:=x.bi_cap,bs_lo:=x.bs_lo,bs_len:=x.bs_len,bs_cap:=x.bs_cap }) else bif decide (x.v<x.ys.length) then some (Sum.inl { ri:=x.ri,rs:=x.rs,e:=x.e,left:=x.left,right:=x.right,xs:=x.xs,ys:=x.ys.set x.v (IntKind.u8.wrap y),oi_lo:=x.oi_lo,oi_len:=x.oi_len,oi_cap:=x.oi_cap,os_lo:=x.os_lo,os_len:=x.os_len,os_cap:=x.os_cap,bi_lo:=x.bi_lo,bi_len:=x.bi_len,bi_cap:=x.bi_cap,bs_lo:=x.bs_lo,bs_len:=x.bs_len,bs_cap:=x.bs_cap }) else none else none
else none
theorem Y7(x:XS):JE Xl 49 R0.rA R0.rB (Kb.R x) (Kb.H x) (qL 0 VE .ret bz0b)=Xn x:=by kernel_rfl
def UZ:QB:=KP 0 Kb VE .ret bz0b Xn
theorem ta0b:QA R0.rA 0=[]:=by kernel_rfl
theorem tb0b:QA R0.rB R0.rA.nl=[]:=by kernel_rfl
theorem Y4{y:YI}(hy:Rnd R0.rA R0.rB R0.rP 49 y):J2 Try.prog 49 0 y.assign y.body UZ:=UD mixed (Q7 Q9 Q6 _) rfl ⟨by kernel_rfl,by kernel_rfl⟩ (λ_=>rfl) (λ_=>rfl) (λ_=>rfl) (λ_=>ta0b▸Q8.nil) (λl=>tb0b▸Q8.nil) Y7 hy
def ub0:QB:=.alt Ua UZ
theorem Qr{y:YI}(hy:Rnd R0.rA R0.rB R0.rP 49 y):J2 Try.prog 49 0 y.assign y.body ub0:=⟨Y5 hy,Y4 hy⟩
def X8:Env:=⟨ty,QJ cl,λ_=>none,some (R0.rP,ub0)⟩
theorem Zb{y:YI}(hy:Rnd R0.rA R0.rB R0.rP 49 y):Qp Try.prog 0 X8 (some y):=JA rfl (by kernel_rfl) (by kernel_rfl) Qr hy
structure QM where(n2 i2:Int)(ri rs:List (Int))(e:Int)(left right:List UInt8)(xs ys:List (Int))(oi_lo oi_len oi_cap os_lo os_len os_cap bi_lo bi_len bi_cap bs_lo bs_len bs_cap:Nat)
def J0:Pt QM where
 own:=[]
 t:=⟨[(0,.c (.clo 1000000 [])),(1,.c (.ptr 7 0)),(22,.c (.it .i64)),(23,.c (.it .i64)),(2000002,.c (.ptr 0 0)),(2000003,.c (.ptr 1 0)),(2000004,.c (.ptr 2 0)),(2000005,.c (.ptr 3 0)),(2000007,.c (.ptr 6 0)),(3000000,.c (.fn 0))],[.st [.arr (.int .u8),.arr (.int .u8)] 1 0,.st [.it .i64] 1 0,.st [.sg] 1 0,.st [.sg] 1 0,.arr (.int .u8) 0,.arr (.int .u8) 0,.st [.slc 4 0 1,.slc 5 0 1] 1 0,.st [.slc 4 0 1,.slc 5 0 1] 1 0]⟩
 to:=λv=>⟨v.1.2.2.1,v.1.2.2.2.1,v.2.1.1,v.2.1.2.1,v.2.2.1.1,v.2.2.2.1.1,v.2.2.2.2.1.1,v.2.2.2.2.2.1,v.2.2.2.2.2.2.1,v.2.2.2.2.2.2.2.1.1.1,v.2.2.2.2.2.2.2.1.1.2.1,v.2.2.2.2.2.2.2.1.1.2.2,v.2.2.2.2.2.2.2.1.2.1.1,v.2.2.2.2.2.2.2.1.2.1.2.1,v.2.2.2.2.2.2.2.1.2.1.2.2,v.2.2.2.2.2.2.2.2.1.1.1,v.2.2.2.2.2.2.2.2.1.1.2.1,v.2.2.2.2.2.2.2.2.1.1.2.2,v.2.2.2.2.2.2.2.2.1.2.1.1,v.2.2.2.2.2.2.2.2.1.2.1.2.1,v.2.2.2.2.2.2.2.2.1.2.1.2.2⟩
 fr:=λx=>(((),((),(x.n2,(x.i2,((),((),((),((),((),((),())))))))))),((x.ri,(x.rs,())),((x.e,()),((x.left,()),((x.right,()),(x.xs,(x.ys,(((x.oi_lo,x.oi_len,x.oi_cap),((x.os_lo,x.os_len,x.os_cap),())),(((x.bi_lo,x.bi_len,x.bi_cap),((x.bs_lo,x.bs_len,x.bs_cap),())),())))))))))
structure Qt where(ri rs:List (Int))(e:Int)(left right:List UInt8)(xs ys:List (Int))(oi_lo oi_len oi_cap os_lo os_len os_cap bi_lo bi_len bi_cap bs_lo bs_len bs_cap:Nat)
def X4:Pt Qt where
 own:=[]
 t:=⟨[(2000002,.c (.ptr 0 0)),(2000003,.c (.ptr 1 0)),(2000004,.c (.ptr 2 0)),(2000005,.c (.ptr 3 0)),(2000007,.c (.ptr 6 0)),(3000000,.c (.fn 0))],[.st [.arr (.int .u8),.arr (.int .u8)] 1 0,.st [.it .i64] 1 0,.st [.sg] 1 0,.st [.sg] 1 0,.arr (.int .u8) 0,.arr (.int .u8) 0,.st [.slc 4 0 1,.slc 5 0 1] 1 0,.st [.slc 4 0 1,.slc 5 0 1] 1 0]⟩
 to:=λv=>⟨v.2.1.1,v.2.1.2.1,v.2.2.1.1,v.2.2.2.1.1,v.2.2.2.2.1.1,v.2.2.2.2.2.1,v.2.2.2.2.2.2.1,v.2.2.2.2.2.2.2.1.1.1,v.2.2.2.2.2.2.2.1.1.2.1,v.2.2.2.2.2.2.2.1.1.2.2,v.2.2.2.2.2.2.2.1.2.1.1,v.2.2.2.2.2.2.2.1.2.1.2.1,v.2.2.2.2.2.2.2.1.2.1.2.2,v.2.2.2.2.2.2.2.2.1.1.1,v.2.2.2.2.2.2.2.2.1.1.2.1,v.2.2.2.2.2.2.2.2.1.1.2.2,v.2.2.2.2.2.2.2.2.1.2.1.1,v.2.2.2.2.2.2.2.2.1.2.1.2.1,v.2.2.2.2.2.2.2.2.1.2.1.2.2⟩
 fr:=λx=>(((),((),((),((),((),((),())))))),((x.ri,(x.rs,())),((x.e,()),((x.left,()),((x.right,()),(x.xs,(x.ys,(((x.oi_lo,x.oi_len,x.oi_cap),((x.os_lo,x.os_len,x.os_cap),())),(((x.bi_lo,x.bi_len,x.bi_cap),((x.bs_lo,x.bs_len,x.bs_cap),())),())))))))))
structure UI where(ri rs:List (Int))(e:Int)(left right:List UInt8)(xs ys:List (Int))(oi_lo oi_len oi_cap os_lo os_len os_cap bi_lo bi_len bi_cap bs_lo bs_len bs_cap:Nat)
def i0_z1:Pt UI where
 own:=[]
 t:=⟨[(2000002,.c (.ptr 0 0)),(2000003,.c (.ptr 1 0)),(2000004,.c (.ptr 2 0)),(2000005,.c (.ptr 3 0)),(2000007,.c (.ptr 6 0)),(3000000,.c (.fn 2))],[.st [.arr (.int .u8),.arr (.int .u8)] 1 0,.st [.it .i64] 1 0,.st [.sg] 1 0,.st [.sg] 1 0,.arr (.int .u8) 0,.arr (.int .u8) 0,.st [.slc 4 0 1,.slc 5 0 1] 1 0,.st [.slc 4 0 1,.slc 5 0 1] 1 0]⟩
 to:=λv=>⟨v.2.1.1,v.2.1.2.1,v.2.2.1.1,v.2.2.2.1.1,v.2.2.2.2.1.1,v.2.2.2.2.2.1,v.2.2.2.2.2.2.1,v.2.2.2.2.2.2.2.1.1.1,v.2.2.2.2.2.2.2.1.1.2.1,v.2.2.2.2.2.2.2.1.1.2.2,v.2.2.2.2.2.2.2.1.2.1.1,v.2.2.2.2.2.2.2.1.2.1.2.1,v.2.2.2.2.2.2.2.1.2.1.2.2,v.2.2.2.2.2.2.2.2.1.1.1,v.2.2.2.2.2.2.2.2.1.1.2.1,v.2.2.2.2.2.2.2.2.1.1.2.2,v.2.2.2.2.2.2.2.2.1.2.1.1,v.2.2.2.2.2.2.2.2.1.2.1.2.1,v.2.2.2.2.2.2.2.2.1.2.1.2.2⟩
 fr:=λx=>(((),((),((),((),((),((),())))))),((x.ri,(x.rs,())),((x.e,()),((x.left,()),((x.right,()),(x.xs,(x.ys,(((x.oi_lo,x.oi_len,x.oi_cap),((x.os_lo,x.os_len,x.os_cap),())),(((x.bi_lo,x.bi_len,x.bi_cap),((x.bs_lo,x.bs_len,x.bs_cap),())),())))))))))
def QK(x:QM):Option (QM⊕(Qt⊕UI)):=bif decide (x.i2<x.n2) then bif inR x.i2 x.bs_len then Q1 (Xn { i:=IntKind.i64.wrap ((↑x.bi_len:Int)+x.i2),v:=x.bs_lo+x.i2.toNat,ri:=x.ri,rs:=x.rs,e:=x.e,left:=x.left,right:=x.right,xs:=x.xs,ys:=x.ys,oi_lo:=x.oi_lo,oi_len:=x.oi_len,oi_cap:=x.oi_cap,os_lo:=x.os_lo,os_len:=x.os_len,os_cap:=x.os_cap,bi_lo:=x.bi_lo,bi_len:=x.bi_len,bi_cap:=x.bi_cap,bs_lo:=x.bs_lo,bs_len:=x.bs_len,bs_cap:=x.bs_cap }) λs=>Qn s (λy=>some (Sum.inl { n2:=x.n2,i2:=IntKind.i64.wrap (x.i2+1),ri:=y.ri,rs:=y.rs,e:=y.e,left:=y.left,right:=y.right,xs:=y.xs,ys:=y.ys,oi_lo:=y.oi_lo,oi_len:=y.oi_len,oi_cap:=y.oi_cap,os_lo:=y.os_lo,os_len:=y.os_len,os_cap:=y.os_cap,bi_lo:=y.bi_lo,bi_len:=y.bi_len,bi_cap:=y.bi_cap,bs_lo:=y.bs_lo,bs_len:=y.bs_len,bs_cap:=y.bs_cap })) λz=>some (Sum.inr (Sum.inr { ri:=z.ri,rs:=z.rs,e:=z.e,left:=z.left,right:=z.right,xs:=z.xs,ys:=z.ys,oi_lo:=z.oi_lo,oi_len:=z.oi_len,oi_cap:=z.oi_cap,os_lo:=z.os_lo,os_len:=z.os_len,os_cap:=z.os_cap,bi_lo:=z.bi_lo,bi_len:=z.bi_len,bi_cap:=z.bi_cap,bs_lo:=z.bs_lo,bs_len:=z.bs_len,bs_cap:=z.bs_cap })) else none
else
 some
  (Sum.inr
   (Sum.inl
    {ri:=x.ri,rs:=x.rs,e:=x.e,left:=x.left,right:=x.right,xs:=x.xs,ys:=x.ys,oi_lo:=x.oi_lo,oi_len:=x.oi_len,oi_cap:=x.oi_cap,os_lo:=x.os_lo,
     os_len:=x.os_len,os_cap:=x.os_cap,bi_lo:=x.bi_lo,bi_len:=x.bi_len,bi_cap:=x.bi_cap,bs_lo:=x.bs_lo,bs_len:=x.bs_len,bs_cap:=x.bs_cap }))
theorem JU(x:QM):exec X8 39 (C50.Q2 1) 2 (J0.R x) (J0.H x) (Jb 0 J0 (.exit 2) X4 .ret i0_z1)=QK x:=by kernel_rfl
def JY:QB:=Jc 0 J0 (.exit 2) X4 .ret i0_z1 QK
theorem XW:QA (C50.Q2 1) 2=[]:=by kernel_rfl
theorem JX{y:YI}(hy:Rnd R0.rA R0.rB R0.rP 49 y):QH Try.prog 39 none 0 (C50.Q2 1) JY (some y):=Ql mixed (Q7 Q9 Q6 _) (by trivial) (by trivial) (λ_=>rfl) (λ_=>rfl) (λ_=>rfl) (XW▸Q8.nil) JU (hyk:=Zb hy)
def X9:Env:=⟨ty,QJ cl,JB [(1,JY)],some (R0.rP,ub0)⟩
theorem Zc{y:YI}(hy:Rnd R0.rA R0.rB R0.rP 49 y):Qp Try.prog 0 X9 (some y):=JA rfl (by kernel_rfl) (by kernel_rfl) Qr hy
structure QN where(n i:Int)(ri rs:List (Int))(e:Int)(left right:List UInt8)(xs ys:List (Int))(oi_lo oi_len oi_cap os_lo os_len os_cap bi_lo bi_len bi_cap bs_lo bs_len bs_cap:Nat)
def J1:Pt QN where
 own:=[]
 t:=⟨[(0,.c (.clo 1000000 [])),(1,.c (.ptr 7 0)),(7,.c (.it .i64)),(8,.c (.it .i64)),(2000002,.c (.ptr 0 0)),(2000003,.c (.ptr 1 0)),(2000004,.c (.ptr 2 0)),(2000005,.c (.ptr 3 0)),(2000007,.c (.ptr 6 0)),(3000000,.c (.fn 0))],[.st [.arr (.int .u8),.arr (.int .u8)] 1 0,.st [.it .i64] 1 0,.st [.sg] 1 0,.st [.sg] 1 0,.arr (.int .u8) 0,.arr (.int .u8) 0,.st [.slc 4 0 1,.slc 5 0 1] 1 0,.st [.slc 4 0 1,.slc 5 0 1] 1 0]⟩
 to:=λv=>⟨v.1.2.2.1,v.1.2.2.2.1,v.2.1.1,v.2.1.2.1,v.2.2.1.1,v.2.2.2.1.1,v.2.2.2.2.1.1,v.2.2.2.2.2.1,v.2.2.2.2.2.2.1,v.2.2.2.2.2.2.2.1.1.1,v.2.2.2.2.2.2.2.1.1.2.1,v.2.2.2.2.2.2.2.1.1.2.2,v.2.2.2.2.2.2.2.1.2.1.1,v.2.2.2.2.2.2.2.1.2.1.2.1,v.2.2.2.2.2.2.2.1.2.1.2.2,v.2.2.2.2.2.2.2.2.1.1.1,v.2.2.2.2.2.2.2.2.1.1.2.1,v.2.2.2.2.2.2.2.2.1.1.2.2,v.2.2.2.2.2.2.2.2.1.2.1.1,v.2.2.2.2.2.2.2.2.1.2.1.2.1,v.2.2.2.2.2.2.2.2.1.2.1.2.2⟩
 fr:=λx=>(((),((),(x.n,(x.i,((),((),((),((),((),((),())))))))))),((x.ri,(x.rs,())),((x.e,()),((x.left,()),((x.right,()),(x.xs,(x.ys,(((x.oi_lo,x.oi_len,x.oi_cap),((x.os_lo,x.os_len,x.os_cap),())),(((x.bi_lo,x.bi_len,x.bi_cap),((x.bs_lo,x.bs_len,x.bs_cap),())),())))))))))
structure Qu where(ri rs:List (Int))(e:Int)(left right:List UInt8)(xs ys:List (Int))(oi_lo oi_len oi_cap os_lo os_len os_cap bi_lo bi_len bi_cap bs_lo bs_len bs_cap:Nat)
def X5:Pt Qu where
 own:=[]
 t:=⟨[(0,.c (.clo 1000000 [])),(1,.c (.ptr 7 0)),(2000002,.c (.ptr 0 0)),(2000003,.c (.ptr 1 0)),(2000004,.c (.ptr 2 0)),(2000005,.c (.ptr 3 0)),(2000007,.c (.ptr 6 0)),(3000000,.c (.fn 0))],[.st [.arr (.int .u8),.arr (.int .u8)] 1 0,.st [.it .i64] 1 0,.st [.sg] 1 0,.st [.sg] 1 0,.arr (.int .u8) 0,.arr (.int .u8) 0,.st [.slc 4 0 1,.slc 5 0 1] 1 0,.st [.slc 4 0 1,.slc 5 0 1] 1 0]⟩
 to:=λv=>⟨v.2.1.1,v.2.1.2.1,v.2.2.1.1,v.2.2.2.1.1,v.2.2.2.2.1.1,v.2.2.2.2.2.1,v.2.2.2.2.2.2.1,v.2.2.2.2.2.2.2.1.1.1,v.2.2.2.2.2.2.2.1.1.2.1,v.2.2.2.2.2.2.2.1.1.2.2,v.2.2.2.2.2.2.2.1.2.1.1,v.2.2.2.2.2.2.2.1.2.1.2.1,v.2.2.2.2.2.2.2.1.2.1.2.2,v.2.2.2.2.2.2.2.2.1.1.1,v.2.2.2.2.2.2.2.2.1.1.2.1,v.2.2.2.2.2.2.2.2.1.1.2.2,v.2.2.2.2.2.2.2.2.1.2.1.1,v.2.2.2.2.2.2.2.2.1.2.1.2.1,v.2.2.2.2.2.2.2.2.1.2.1.2.2⟩
 fr:=λx=>(((),((),((),((),((),((),((),((),())))))))),((x.ri,(x.rs,())),((x.e,()),((x.left,()),((x.right,()),(x.xs,(x.ys,(((x.oi_lo,x.oi_len,x.oi_cap),((x.os_lo,x.os_len,x.os_cap),())),(((x.bi_lo,x.bi_len,x.bi_cap),((x.bs_lo,x.bs_len,x.bs_cap),())),())))))))))
structure UJ where(ri rs:List (Int))(e:Int)(left right:List UInt8)(xs ys:List (Int))(oi_lo oi_len oi_cap os_lo os_len os_cap bi_lo bi_len bi_cap bs_lo bs_len bs_cap:Nat)
def i0_z0:Pt UJ where
 own:=[]
 t:=⟨[(2000002,.c (.ptr 0 0)),(2000003,.c (.ptr 1 0)),(2000004,.c (.ptr 2 0)),(2000005,.c (.ptr 3 0)),(2000007,.c (.ptr 6 0)),(3000000,.c (.fn 2))],[.st [.arr (.int .u8),.arr (.int .u8)] 1 0,.st [.it .i64] 1 0,.st [.sg] 1 0,.st [.sg] 1 0,.arr (.int .u8) 0,.arr (.int .u8) 0,.st [.slc 4 0 1,.slc 5 0 1] 1 0,.st [.slc 4 0 1,.slc 5 0 1] 1 0]⟩
 to:=λv=>⟨v.2.1.1,v.2.1.2.1,v.2.2.1.1,v.2.2.2.1.1,v.2.2.2.2.1.1,v.2.2.2.2.2.1,v.2.2.2.2.2.2.1,v.2.2.2.2.2.2.2.1.1.1,v.2.2.2.2.2.2.2.1.1.2.1,v.2.2.2.2.2.2.2.1.1.2.2,v.2.2.2.2.2.2.2.1.2.1.1,v.2.2.2.2.2.2.2.1.2.1.2.1,v.2.2.2.2.2.2.2.1.2.1.2.2,v.2.2.2.2.2.2.2.2.1.1.1,v.2.2.2.2.2.2.2.2.1.1.2.1,v.2.2.2.2.2.2.2.2.1.1.2.2,v.2.2.2.2.2.2.2.2.1.2.1.1,v.2.2.2.2.2.2.2.2.1.2.1.2.1,v.2.2.2.2.2.2.2.2.1.2.1.2.2⟩
 fr:=λx=>(((),((),((),((),((),((),())))))),((x.ri,(x.rs,())),((x.e,()),((x.left,()),((x.right,()),(x.xs,(x.ys,(((x.oi_lo,x.oi_len,x.oi_cap),((x.os_lo,x.os_len,x.os_cap),())),(((x.bi_lo,x.bi_len,x.bi_cap),((x.bs_lo,x.bs_len,x.bs_cap),())),())))))))))
def QL(x:QN):Option (QN⊕(Qu⊕UJ)):=bif decide (x.i<x.n) then bif inR x.i x.bi_len then Q1 (Xo { i:=x.i,v:=x.bi_lo+x.i.toNat,ri:=x.ri,rs:=x.rs,e:=x.e,left:=x.left,right:=x.right,xs:=x.xs,ys:=x.ys,oi_lo:=x.oi_lo,oi_len:=x.oi_len,oi_cap:=x.oi_cap,os_lo:=x.os_lo,os_len:=x.os_len,os_cap:=x.os_cap,bi_lo:=x.bi_lo,bi_len:=x.bi_len,bi_cap:=x.bi_cap,bs_lo:=x.bs_lo,bs_len:=x.bs_len,bs_cap:=x.bs_cap }) λs=>Qn s (λy=>some (Sum.inl { n:=x.n,i:=IntKind.i64.wrap (x.i+1),ri:=y.ri,rs:=y.rs,e:=y.e,left:=y.left,right:=y.right,xs:=y.xs,ys:=y.ys,oi_lo:=y.oi_lo,oi_len:=y.oi_len,oi_cap:=y.oi_cap,os_lo:=y.os_lo,os_len:=y.os_len,os_cap:=y.os_cap,bi_lo:=y.bi_lo,bi_len:=y.bi_len,bi_cap:=y.bi_cap,bs_lo:=y.bs_lo,bs_len:=y.bs_len,bs_cap:=y.bs_cap })) λz=>some (Sum.inr (Sum.inr { ri:=z.ri,rs:=z.rs,e:=z.e,left:=z.left,right:=z.right,xs:=z.xs,ys:=z.ys,oi_lo:=z.oi_lo,oi_len:=z.oi_len,oi_cap:=z.oi_cap,os_lo:=z.os_lo,os_len:=z.os_len,os_cap:=z.os_cap,bi_lo:=z.bi_lo,bi_len:=z.bi_len,bi_cap:=z.bi_cap,bs_lo:=z.bs_lo,bs_len:=z.bs_len,bs_cap:=z.bs_cap })) else none
else
 some
  (Sum.inr
   (Sum.inl
    {ri:=x.ri,rs:=x.rs,e:=x.e,left:=x.left,right:=x.right,xs:=x.xs,ys:=x.ys,oi_lo:=x.oi_lo,oi_len:=x.oi_len,oi_cap:=x.oi_cap,os_lo:=x.os_lo,
     os_len:=x.os_len,os_cap:=x.os_cap,bi_lo:=x.bi_lo,bi_len:=x.bi_len,bi_cap:=x.bi_cap,bs_lo:=x.bs_lo,bs_len:=x.bs_len,bs_cap:=x.bs_cap }))
theorem JW(x:QN):exec X9 39 (C50.Q2 0) 1 (J1.R x) (J1.H x) (Jb 0 J1 (.exit 0) X5 .ret i0_z0)=QL x:=by kernel_rfl
def X6:QB:=Jc 0 J1 (.exit 0) X5 .ret i0_z0 QL
theorem XX:QA (C50.Q2 0) 1=[]:=by kernel_rfl
theorem JZ{y:YI}(hy:Rnd R0.rA R0.rB R0.rP 49 y):QH Try.prog 39 none 0 (C50.Q2 0) X6 (some y):=Ql mixed (Q7 Q9 Q6 _) (by trivial) (by trivial) (λ_=>rfl) (λ_=>rfl) (λ_=>rfl) (XX▸Q8.nil) JW (hyk:=Zc hy)
def XA:Env:=⟨ty,QJ cl,JB [(0,X6),(1,JY)],some (R0.rP,ub0)⟩
theorem Zd{y:YI}(hy:Rnd R0.rA R0.rB R0.rP 49 y):Qp Try.prog 0 XA (some y):=JA rfl (by kernel_rfl) (by kernel_rfl) Qr hy
structure p0X where(ri rs:List (Int))(e:Int)(left right:List UInt8)(xs ys:List (Int))(oi_lo oi_len oi_cap os_lo os_len os_cap bi_lo bi_len bi_cap bs_lo bs_len bs_cap:Nat)
def p0:Pt p0X where
 own:=[]
 t:=⟨[(2,.c (.ptr 0 0)),(3,.c (.ptr 1 0)),(4,.c (.ptr 2 0)),(5,.c (.ptr 3 0)),(7,.c (.ptr 6 0)),(32,.c (.clo 50 [⟨7,0,0⟩]))],[.st [.arr (.int .u8),.arr (.int .u8)] 1 0,.st [.it .i64] 1 0,.st [.sg] 1 0,.st [.sg] 1 0,.arr (.int .u8) 0,.arr (.int .u8) 0,.st [.slc 4 0 1,.slc 5 0 1] 1 0,.st [.slc 4 0 1,.slc 5 0 1] 1 0]⟩
 to:=λv=>⟨v.2.1.1,v.2.1.2.1,v.2.2.1.1,v.2.2.2.1.1,v.2.2.2.2.1.1,v.2.2.2.2.2.1,v.2.2.2.2.2.2.1,v.2.2.2.2.2.2.2.1.1.1,v.2.2.2.2.2.2.2.1.1.2.1,v.2.2.2.2.2.2.2.1.1.2.2,v.2.2.2.2.2.2.2.1.2.1.1,v.2.2.2.2.2.2.2.1.2.1.2.1,v.2.2.2.2.2.2.2.1.2.1.2.2,v.2.2.2.2.2.2.2.2.1.1.1,v.2.2.2.2.2.2.2.2.1.1.2.1,v.2.2.2.2.2.2.2.2.1.1.2.2,v.2.2.2.2.2.2.2.2.1.2.1.1,v.2.2.2.2.2.2.2.2.1.2.1.2.1,v.2.2.2.2.2.2.2.2.1.2.1.2.2⟩
 fr:=λx=>(((),((),((),((),((),((),())))))),((x.ri,(x.rs,())),((x.e,()),((x.left,()),((x.right,()),(x.xs,(x.ys,(((x.oi_lo,x.oi_len,x.oi_cap),((x.os_lo,x.os_len,x.os_cap),())),(((x.bi_lo,x.bi_len,x.bi_cap),((x.bs_lo,x.bs_len,x.bs_cap),())),())))))))))
structure q0X where(ri rs:List (Int))(e:Int)(left right:List UInt8)(xs ys:List (Int))(oi_lo oi_len oi_cap os_lo os_len os_cap bi_lo bi_len bi_cap bs_lo bs_len bs_cap:Nat)
def q0:Pt q0X where
 own:=[]
 t:=⟨[(2,.c (.ptr 0 0)),(3,.c (.ptr 1 0)),(4,.c (.ptr 2 0)),(5,.c (.ptr 3 0)),(7,.c (.ptr 6 0))],[.st [.arr (.int .u8),.arr (.int .u8)] 1 0,.st [.it .i64] 1 0,.st [.sg] 1 0,.st [.sg] 1 0,.arr (.int .u8) 0,.arr (.int .u8) 0,.st [.slc 4 0 1,.slc 5 0 1] 1 0,.st [.slc 4 0 1,.slc 5 0 1] 1 0]⟩
 to:=λv=>⟨v.2.1.1,v.2.1.2.1,v.2.2.1.1,v.2.2.2.1.1,v.2.2.2.2.1.1,v.2.2.2.2.2.1,v.2.2.2.2.2.2.1,v.2.2.2.2.2.2.2.1.1.1,v.2.2.2.2.2.2.2.1.1.2.1,v.2.2.2.2.2.2.2.1.1.2.2,v.2.2.2.2.2.2.2.1.2.1.1,v.2.2.2.2.2.2.2.1.2.1.2.1,v.2.2.2.2.2.2.2.1.2.1.2.2,v.2.2.2.2.2.2.2.2.1.1.1,v.2.2.2.2.2.2.2.2.1.1.2.1,v.2.2.2.2.2.2.2.2.1.1.2.2,v.2.2.2.2.2.2.2.2.1.2.1.1,v.2.2.2.2.2.2.2.2.1.2.1.2.1,v.2.2.2.2.2.2.2.2.1.2.1.2.2⟩
 fr:=λx=>(((),((),((),((),((),()))))),((x.ri,(x.rs,())),((x.e,()),((x.left,()),((x.right,()),(x.xs,(x.ys,(((x.oi_lo,x.oi_len,x.oi_cap),((x.os_lo,x.os_len,x.os_cap),())),(((x.bi_lo,x.bi_len,x.bi_cap),((x.bs_lo,x.bs_len,x.bs_cap),())),())))))))))
structure z0X where(ri rs:List (Int))(e:Int)(left right:List UInt8)(xs ys:List (Int))(oi_lo oi_len oi_cap os_lo os_len os_cap bi_lo bi_len bi_cap bs_lo bs_len bs_cap:Nat)
def z0:Pt z0X where
 own:=[]
 t:=⟨[(2,.c (.ptr 0 0)),(3,.c (.ptr 1 0)),(4,.c (.ptr 2 0)),(5,.c (.ptr 3 0)),(7,.c (.ptr 6 0))],[.st [.arr (.int .u8),.arr (.int .u8)] 1 0,.st [.it .i64] 1 0,.st [.sg] 1 0,.st [.sg] 1 0,.arr (.int .u8) 0,.arr (.int .u8) 0,.st [.slc 4 0 1,.slc 5 0 1] 1 0,.st [.slc 4 0 1,.slc 5 0 1] 1 0]⟩
 to:=λv=>⟨v.2.1.1,v.2.1.2.1,v.2.2.1.1,v.2.2.2.1.1,v.2.2.2.2.1.1,v.2.2.2.2.2.1,v.2.2.2.2.2.2.1,v.2.2.2.2.2.2.2.1.1.1,v.2.2.2.2.2.2.2.1.1.2.1,v.2.2.2.2.2.2.2.1.1.2.2,v.2.2.2.2.2.2.2.1.2.1.1,v.2.2.2.2.2.2.2.1.2.1.2.1,v.2.2.2.2.2.2.2.1.2.1.2.2,v.2.2.2.2.2.2.2.2.1.1.1,v.2.2.2.2.2.2.2.2.1.1.2.1,v.2.2.2.2.2.2.2.2.1.1.2.2,v.2.2.2.2.2.2.2.2.1.2.1.1,v.2.2.2.2.2.2.2.2.1.2.1.2.1,v.2.2.2.2.2.2.2.2.1.2.1.2.2⟩
 fr:=λx=>(((),((),((),((),((),()))))),((x.ri,(x.rs,())),((x.e,()),((x.left,()),((x.right,()),(x.xs,(x.ys,(((x.oi_lo,x.oi_len,x.oi_cap),((x.os_lo,x.os_len,x.os_cap),())),(((x.bi_lo,x.bi_len,x.bi_cap),((x.bs_lo,x.bs_len,x.bs_cap),())),())))))))))
def s0(x:p0X):Option (q0X⊕z0X):=Q1 (iter QL ⟨(↑x.bi_len:Int),0,x.ri,x.rs,x.e,x.left,x.right,x.xs,x.ys,x.oi_lo,x.oi_len,x.oi_cap,x.os_lo,x.os_len,x.os_cap,x.bi_lo,x.bi_len,x.bi_cap,x.bs_lo,x.bs_len,x.bs_cap⟩) λs=>Qn s (λy=>Q1 (iter QK ⟨(↑y.bs_len:Int),0,y.ri,y.rs,y.e,y.left,y.right,y.xs,y.ys,y.oi_lo,y.oi_len,y.oi_cap,y.os_lo,y.os_len,y.os_cap,y.bi_lo,y.bi_len,y.bi_cap,y.bs_lo,y.bs_len,y.bs_cap⟩) λs=>Qn s (λy=>some (Sum.inl ⟨y.ri,y.rs,y.e,y.left,y.right,y.xs,y.ys,y.oi_lo,y.oi_len,y.oi_cap,y.os_lo,y.os_len,y.os_cap,y.bi_lo,y.bi_len,y.bi_cap,y.bs_lo,y.bs_len,y.bs_cap⟩)) λz=>some (Sum.inr ⟨z.ri,z.rs,z.e,z.left,z.right,z.xs,z.ys,z.oi_lo,z.oi_len,z.oi_cap,z.os_lo,z.os_len,z.os_cap,z.bi_lo,z.bi_len,z.bi_cap,z.bs_lo,z.bs_len,z.bs_cap⟩)) λz=>some (Sum.inr ⟨z.ri,z.rs,z.e,z.left,z.right,z.xs,z.ys,z.oi_lo,z.oi_len,z.oi_cap,z.os_lo,z.os_len,z.os_cap,z.bi_lo,z.bi_len,z.bi_cap,z.bs_lo,z.bs_len,z.bs_cap⟩)
theorem Qd(x:p0X):ZA XA 39 C50 50 R0.rF (p0.R x) (p0.H x) (Xz (qL 0 q0 .ret z0))=s0 x:=by kernel_rfl
def l0:QB:=KP 0 p0 q0 .ret z0 s0
theorem ti0:QA C50 0=[(0,C50.Q2 0),(1,C50.Q2 1)]:=by kernel_rfl
theorem Qe:Z3 Try.prog 49 0 R0.rF R0.rP R0.rA R0.rB l0:=mkRng2_ok mixed (Q7 Q9 Q6 _) (λhy=>Zd hy) s50 (by kernel_rfl) (λhy=>ti0▸(Q8.cons rfl (JZ hy) (Q8.cons rfl (JX hy) Q8.nil))) (λ_=>rfl) (λ_=>rfl) (λ_=>rfl) Qd
def E0:Env:=⟨ty,QJ cl,JB [(0,l0)],none⟩
theorem ur:Kn C27 0=[(0,R0)]:=by kernel_rfl
def m(x:gX):Option fY:=bif decide ((↑x.s.length:Int)>16385) then some ([],[],3) else Q1 (M47.m ⟨x.s,[124]⟩) λy=>bif !y.2.2 then some ([],[],4) else bif decide (0<=(↑y.1.length:Int))&&decide ((↑y.1.length:Int)<=(↑y.1.length:Int))&&decide ((↑y.1.length:Int)*(↑1:Int)<=281474976710656)&&decide ((↑y.1.length:Int)<=9223372036854775807) then bif decide (0<=(↑y.2.1.length:Int))&&decide ((↑y.2.1.length:Int)<=(↑y.2.1.length:Int))&&decide ((↑y.2.1.length:Int)*(↑1:Int)<=281474976710656)&&decide ((↑y.2.1.length:Int)<=9223372036854775807) then Q1 (M36o.m ⟨0,(↑y.1.length:Int).toNat,(↑y.1.length:Int).toNat,0,(↑y.2.1.length:Int).toNat,(↑y.2.1.length:Int).toNat,List.replicate (↑y.1.length:Int).toNat (0:Int),List.replicate (↑y.2.1.length:Int).toNat (0:Int)⟩) λy_1=>Q1 (s0 ⟨[],[],0,y.1,y.2.1,y_1.1,y_1.2.1,0,(↑y.1.length:Int).toNat,(↑y.1.length:Int).toNat,0,(↑y.2.1.length:Int).toNat,(↑y.2.1.length:Int).toNat,y_1.2.2.1,y_1.2.2.2.1,y_1.2.2.2.2.1,y_1.2.2.2.2.2.1,y_1.2.2.2.2.2.2.1,y_1.2.2.2.2.2.2.2⟩) λs=>Qn s (λy=>bif leB (y.oi_lo+y.oi_len) y.xs.length&&(leB (y.os_lo+y.os_len) y.ys.length&&true)&&true&&true&&true then some (List.take y.oi_len (List.drop y.oi_lo y.xs),List.take y.os_len (List.drop y.os_lo y.ys),0) else none) λz=>some (z.ri,z.rs,z.e) else none else none
theorem QW(x:gX):exec E0 49 C27 0 (QX 0 (g.A x)) (g.H x) (finish 0 ty [.cell 2 29,.cell 3 32] f)=m x:=by kernel_rfl
theorem tl:QA C27 0=[]:=by kernel_rfl
theorem known:QV Try.prog 27 g f m:=
 QD mixed (Q7 Q9 Q6 _) s27 rfl rfl tl Q8.nil (λ_ _=>⟨rfl,rfl⟩) (λ_ _=>⟨rfl,rfl⟩) QW (hg:=Jx.of rfl (ur▸(Zs.cons rfl (by kernel_rfl) Qe Zs.nil)))
def con:Con:=XI g f m default
theorem Q5:Qk Try.prog 27 con:=Qa known (λ_=>rfl) rfl
end M27
namespace M31
structure gX where(s:List UInt8)
def g:Sg gX:=⟨[.c (.sg)],[],λa b=>⟨a.1⟩,λx=>(x.s,()),λx=>()⟩
abbrev fY:=List (Int)×List (Int)
def f:Ft fY:=⟨none,.agg [.arr (.int .u8),.arr (.int .u8)],[],λa b=>(a.1,a.2.1),λy=>(y.1,(y.2,())),λy=>()⟩
def cl:List (FuncId×Con):=[(27,M27.con)]
theorem Q6:QT Try.prog cl:=⟨M27.Q5,trivial⟩
def E0:Env:=⟨ty,QJ cl,λ_=>none,none⟩
def m(x:gX):Option fY:=Q1 (M27.m ⟨x.s⟩) λy=>some (y.1,y.2.1)
theorem QW(x:gX):exec E0 11 C31 0 (QX 0 (g.A x)) (g.H x) (finish 0 ty [.cell 2 29] f)=m x:=by kernel_rfl
theorem tl:QA C31 0=[]:=by kernel_rfl
theorem known:QV Try.prog 31 g f m:=
 QD mixed (Q7 Q9 Q6 _) s31 rfl rfl tl Q8.nil (λ_ _=>⟨rfl,rfl⟩) (λ_ _=>⟨rfl,rfl⟩) QW
def con:Con:=XI g f m default
theorem Q5:Qk Try.prog 31 con:=Qa known (λ_=>rfl) rfl
end M31
namespace M43
structure gX where(i:Int)(pi ps:List (Int))
def g:Sg gX:=⟨[.c (.it .i64),.c (.ptr 0 0)],[.st [.arr (.int .u8),.arr (.int .u8)] 1 0],λa b=>⟨a.1,b.1.1,b.1.2.1⟩,λx=>(x.i,((),())),λx=>((x.pi,(x.ps,())),())⟩
abbrev fY:=Bool×List (Int)×List (Int)
def f:Ft fY:=⟨none,.c (.bo),[.st [.arr (.int .u8),.arr (.int .u8)] 1 0],λa b=>(a,b.1.1,b.1.2.1),λy=>y.1,λy=>((y.2.1,(y.2.2,())),())⟩
def cl:List (FuncId×Con):=[]
theorem Q6:QT Try.prog cl:=trivial
def E0:Env:=⟨ty,QJ cl,λ_=>none,none⟩
def m(x:gX):Option fY:=some (bif decide (x.i<0) then true else decide (x.i>=IntKind.i64.wrap ((↑x.pi.length:Int)+(↑x.ps.length:Int))),x.pi,x.ps)
theorem QW(x:gX):exec E0 17 C43 0 (QX 0 (g.A x)) (g.H x) (finish 1 ty [.tmp 3] f)=m x:=by kernel_rfl
theorem tl:QA C43 0=[]:=by kernel_rfl
theorem known:QV Try.prog 43 g f m:=
 QD mixed (Q7 Q9 Q6 _) s43 rfl rfl tl Q8.nil (λ_ _=>⟨rfl,rfl⟩) (λ_ _=>⟨rfl,rfl⟩) QW
def con:Con:=conR g [.arg 1 0] f m default
theorem Q5:Qk Try.prog 43 con:=Wi known (λ_=>rfl) (λ_ _ h=>by unfold m at h;cases h;rfl)
end M43
namespace M51
structure gX where(s pi ps:List (Int))
def g:Sg gX:=⟨[.c (.arr (.int .i64)),.c (.clo 43 [⟨0,0,0⟩])],[.st [.arr (.int .u8),.arr (.int .u8)] 1 0],λa b=>⟨a.1,b.1.1,b.1.2.1⟩,λx=>(x.s,((),())),λx=>((x.pi,(x.ps,())),())⟩
abbrev fY:=Int×List (Int)×List (Int)
def f:Ft fY:=⟨none,.c (.it .i64),[.st [.arr (.int .u8),.arr (.int .u8)] 1 0],λa b=>(a,b.1.1,b.1.2.1),λy=>y.1,λy=>((y.2.1,(y.2.2,())),())⟩
def cl:List (FuncId×Con):=[(43,M43.con)]
theorem Q6:QT Try.prog cl:=⟨M43.Q5,trivial⟩
def E1:Env:=⟨ty,QJ cl,λ_=>none,none⟩
structure p0X where(s:List (Int))(n i:Int)(pi ps:List (Int))
def p0:Pt p0X where
 own:=[]
 t:=⟨[(0,.c (.arr (.int .i64))),(1,.c (.clo 43 [⟨0,0,0⟩])),(7,.c (.it .i64)),(8,.c (.it .i64))],[.st [.arr (.int .u8),.arr (.int .u8)] 1 0]⟩
 to:=λv=>⟨v.1.1,v.1.2.2.1,v.1.2.2.2.1,v.2.1.1,v.2.1.2.1⟩
 fr:=λx=>((x.s,((),(x.n,(x.i,())))),((x.pi,(x.ps,())),()))
structure q0X where(pi ps:List (Int))
def q0:Pt q0X where
 own:=[]
 t:=⟨[],[.st [.arr (.int .u8),.arr (.int .u8)] 1 0]⟩
 to:=λv=>⟨v.2.1.1,v.2.1.2.1⟩
 fr:=λx=>((),((x.pi,(x.ps,())),()))
structure z0X where(r:Int)(pi ps:List (Int))
def z0:Pt z0X where
 own:=[]
 t:=⟨[(4,.c (.it .i64))],[.st [.arr (.int .u8),.arr (.int .u8)] 1 0]⟩
 to:=λv=>⟨v.1.1,v.2.1.1,v.2.1.2.1⟩
 fr:=λx=>((x.r,()),((x.pi,(x.ps,())),()))
def s0(x:p0X):Option (p0X⊕(q0X⊕z0X)):=bif decide (x.i<x.n) then bif inR x.i x.s.length then Q1 (M43.m ⟨x.s[x.i.toNat]?.getD 0,x.pi,x.ps⟩) λy=>bif y.1 then some (Sum.inr (Sum.inr ⟨x.i,x.pi,x.ps⟩)) else some (Sum.inl ⟨x.s,x.n,IntKind.i64.wrap (x.i+1),x.pi,x.ps⟩) else none else some (Sum.inr (Sum.inl ⟨x.pi,x.ps⟩))
theorem Qd(x:p0X):exec E1 19 (C51.Q2 0) 1 (p0.R x) (p0.H x) (Jb 1 p0 (.exit 0) q0 .ret z0)=s0 x:=by kernel_rfl
def l0:QB:=Jc 1 p0 (.exit 0) q0 .ret z0 s0
theorem tl0:QA (C51.Q2 0) 1=[]:=by kernel_rfl
theorem Qe  :QH Try.prog 19 none 1 (C51.Q2 0) l0:=Ql mixed (Q7 Q9 Q6 _) (by trivial) (by trivial) (λ_=>rfl) (λ_=>rfl) (λ_=>rfl) (tl0▸Q8.nil) Qd
def E0:Env:=⟨ty,QJ cl,JB [(0,l0)],none⟩
def m(x:gX):Option fY:=Q1 (iter s0 ⟨x.s,(↑x.s.length:Int),0,x.pi,x.ps⟩) λs=>Qn s (λy=>some (-1,y.pi,y.ps)) λz=>some (z.r,z.pi,z.ps)
theorem QW(x:gX):exec E0 19 C51 0 (QX 0 (g.A x)) (g.H x) (finish 1 ty [.tmp 4] f)=m x:=by kernel_rfl
theorem tl:QA C51 0=[(0,C51.Q2 0)]:=by kernel_rfl
theorem known:QV Try.prog 51 g f m:=
 QD mixed (Q7 Q9 Q6 _) s51 rfl rfl tl (Q8.cons rfl Qe Q8.nil) (λ_ _=>⟨rfl,rfl⟩) (λ_ _=>⟨rfl,rfl⟩) QW
theorem hh{x:gX}{y:fY}(h:m x=some y):f.H y=g.H x:=by
 unfold m at h;obtain⟨r,h1,h2⟩:=Je h;have h3:=Ve (λz=>z.pi=x.pi/\z.ps=x.ps) (λr=>match r with|.inl y=>y.pi=x.pi/\y.ps=x.ps|.inr z=>z.pi=x.pi/\z.ps=x.ps) (λz r hz hr=>by
  unfold s0 at hr;rcases cond_some hr with ⟨_,hr⟩|⟨_,hr⟩
  ·rcases cond_some hr with ⟨_,hr⟩|⟨_,hr⟩
   ·obtain⟨b,_,hr⟩:=Je hr;rcases cond_some hr with ⟨_,hr⟩|⟨_,hr⟩<;>(cases hr;exact hz)
   ·cases hr
  ·cases hr;exact hz) ⟨rfl,rfl⟩ h1
 rcases sumC_some h2 with ⟨z,rfl,h4⟩|⟨z,rfl,h4⟩<;>(cases h4;show [SO.st [.arr (.int .u8) z.pi none,.arr (.int .u8) z.ps none] 1 0]=[SO.st [.arr (.int .u8) x.pi none,.arr (.int .u8) x.ps none] 1 0];rw[h3.1,h3.2])
def con:Con:=conR g [.arg 1 0] f m default
theorem Q5:Qk Try.prog 51 con:=Wi known (λ_=>rfl) (λ_ _ h=>by exact hh h)
end M51
namespace M42
structure gX where(s pi ps:List (Int))
def g:Sg gX:=⟨[.c (.arr (.int .i64)),.c (.clo 43 [⟨0,0,0⟩])],[.st [.arr (.int .u8),.arr (.int .u8)] 1 0],λa b=>⟨a.1,b.1.1,b.1.2.1⟩,λx=>(x.s,((),())),λx=>((x.pi,(x.ps,())),())⟩
abbrev fY:=Bool×List (Int)×List (Int)
def f:Ft fY:=⟨none,.c (.bo),[.st [.arr (.int .u8),.arr (.int .u8)] 1 0],λa b=>(a,b.1.1,b.1.2.1),λy=>y.1,λy=>((y.2.1,(y.2.2,())),())⟩
def cl:List (FuncId×Con):=[(51,M51.con)]
theorem Q6:QT Try.prog cl:=⟨M51.Q5,trivial⟩
def E0:Env:=⟨ty,QJ cl,λ_=>none,none⟩
def m(x:gX):Option fY:=Q1 (M51.m ⟨x.s,x.pi,x.ps⟩) λy=>some (decide (y.1>=0),x.pi,x.ps)
theorem QW(x:gX):exec E0 9 C42 0 (QX 0 (g.A x)) (g.H x) (finish 1 ty [.tmp 4] f)=m x:=by kernel_rfl
theorem tl:QA C42 0=[]:=by kernel_rfl
theorem known:QV Try.prog 42 g f m:=
 QD mixed (Q7 Q9 Q6 _) s42 rfl rfl tl Q8.nil (λ_ _=>⟨rfl,rfl⟩) (λ_ _=>⟨rfl,rfl⟩) QW
theorem hh{x:gX}{y:fY}(h:m x=some y):f.H y=g.H x:=by unfold m at h;obtain⟨r,h1,h2⟩:=Je h;cases h2;rfl
def con:Con:=conR g [.arg 1 0] f m default
theorem Q5:Qk Try.prog 42 con:=Wi known (λ_=>rfl) (λ_ _ h=>by exact hh h)
end M42
namespace M23
structure gX where(i s l:List (Int))
def g:Sg gX:=⟨[.agg [.arr (.int .u8),.arr (.int .u8)],.c (.arr (.int .i64))],[],λa b=>⟨a.1.1,a.1.2.1,a.2.1⟩,λx=>((x.i,(x.s,())),(x.l,())),λx=>()⟩
abbrev fY:=List (Int)×List (Int)×Int
def f:Ft fY:=⟨none,.tup [.inr [.arr (.int .u8),.arr (.int .u8)],.inl (.it .i64)],[],λa b=>(a.1.1,a.1.2.1,a.2.1),λy=>((y.1,(y.2.1,())),(y.2.2,())),λy=>()⟩
def cl:List (FuncId×Con):=[(29,M29.con),(42,M42.con),(34,M34.con)]
theorem Q6:QT Try.prog cl:=⟨M29.Q5,M42.Q5,M34.Q5,trivial⟩
def E1:Env:=⟨ty,QJ cl,λ_=>none,none⟩
structure p0X where(l:List (Int))(n i:Int)(pi ps xs ys:List (Int))(oi_lo oi_len oi_cap os_lo os_len os_cap:Nat)
def p0:Pt p0X where
 own:=[]
 t:=⟨[(2,.c (.ptr 0 0)),(4,.c (.ptr 1 0)),(7,.c (.ptr 4 0)),(22,.c (.arr (.int .i64))),(23,.c (.it .i64)),(24,.c (.it .i64))],[.st [.arr (.int .u8),.arr (.int .u8)] 1 0,.st [.junk,.junk] 1 0,.arr (.int .u8) 0,.arr (.int .u8) 0,.st [.slc 2 0 1,.slc 3 0 1] 1 0]⟩
 to:=λv=>⟨v.1.2.2.2.1,v.1.2.2.2.2.1,v.1.2.2.2.2.2.1,v.2.1.1,v.2.1.2.1,v.2.2.2.1,v.2.2.2.2.1,v.2.2.2.2.2.1.1.1,v.2.2.2.2.2.1.1.2.1,v.2.2.2.2.2.1.1.2.2,v.2.2.2.2.2.1.2.1.1,v.2.2.2.2.2.1.2.1.2.1,v.2.2.2.2.2.1.2.1.2.2⟩
 fr:=λx=>(((),((),((),(x.l,(x.n,(x.i,())))))),((x.pi,(x.ps,())),(((),((),())),(x.xs,(x.ys,(((x.oi_lo,x.oi_len,x.oi_cap),((x.os_lo,x.os_len,x.os_cap),())),()))))))
structure q0X where(pi ps xs ys:List (Int))(oi_lo oi_len oi_cap os_lo os_len os_cap:Nat)
def q0:Pt q0X where
 own:=[]
 t:=⟨[(4,.c (.ptr 1 0)),(7,.c (.ptr 4 0))],[.st [.arr (.int .u8),.arr (.int .u8)] 1 0,.st [.junk,.junk] 1 0,.arr (.int .u8) 0,.arr (.int .u8) 0,.st [.slc 2 0 1,.slc 3 0 1] 1 0]⟩
 to:=λv=>⟨v.2.1.1,v.2.1.2.1,v.2.2.2.1,v.2.2.2.2.1,v.2.2.2.2.2.1.1.1,v.2.2.2.2.2.1.1.2.1,v.2.2.2.2.2.1.1.2.2,v.2.2.2.2.2.1.2.1.1,v.2.2.2.2.2.1.2.1.2.1,v.2.2.2.2.2.1.2.1.2.2⟩
 fr:=λx=>(((),((),())),((x.pi,(x.ps,())),(((),((),())),(x.xs,(x.ys,(((x.oi_lo,x.oi_len,x.oi_cap),((x.os_lo,x.os_len,x.os_cap),())),()))))))
def s0(x:p0X):Option (p0X⊕q0X):=bif decide (x.i<x.n) then bif inR x.i x.l.length then bif decide (x.l[x.i.toNat]?.getD 0<(↑x.pi.length:Int)) then bif inR (x.l[x.i.toNat]?.getD 0) x.oi_len then bif decide (x.oi_lo+Int.toNat (x.l[x.i.toNat]?.getD 0)<x.xs.length) then some (Sum.inl ⟨x.l,x.n,IntKind.i64.wrap (x.i+1),x.pi,x.ps,x.xs.set (x.oi_lo+Int.toNat (x.l[x.i.toNat]?.getD 0)) 2,x.ys,x.oi_lo,x.oi_len,x.oi_cap,x.os_lo,x.os_len,x.os_cap⟩) else none else none else bif inR (IntKind.i64.wrap (x.l[x.i.toNat]?.getD 0 - (↑x.pi.length:Int))) x.os_len then bif decide (x.os_lo+(IntKind.i64.wrap (x.l[x.i.toNat]?.getD 0 - (↑x.pi.length:Int))).toNat<x.ys.length) then some (Sum.inl ⟨x.l,x.n,IntKind.i64.wrap (x.i+1),x.pi,x.ps,x.xs,x.ys.set (x.os_lo+(IntKind.i64.wrap (x.l[x.i.toNat]?.getD 0 - (↑x.pi.length:Int))).toNat) 2,x.oi_lo,x.oi_len,x.oi_cap,x.os_lo,x.os_len,x.os_cap⟩) else none else none else none else some (Sum.inr ⟨x.pi,x.ps,x.xs,x.ys,x.oi_lo,x.oi_len,x.oi_cap,x.os_lo,x.os_len,x.os_cap⟩)
theorem Qd(x:p0X):exec E1 47 (C23.Q2 0) 1 (p0.R x) (p0.H x) (J4 0 p0 (.exit 0) q0)=s0 x:=by kernel_rfl
def l0:QB:=J5 0 p0 (.exit 0) q0 s0
theorem tl0:QA (C23.Q2 0) 1=[]:=by kernel_rfl
theorem Qe  :QH Try.prog 47 none 0 (C23.Q2 0) l0:=QQ mixed (Q7 Q9 Q6 _) (by trivial) (λ_=>rfl) (λ_=>rfl) (tl0▸Q8.nil) Qd
def E0:Env:=⟨ty,QJ cl,JB [(0,l0)],none⟩
def m(x:gX):Option fY:=Q1 (M29.m ⟨x.i,x.s⟩) λy=>bif y !=0 then some ([],[],y) else Q1 (M42.m ⟨x.l,x.i,x.s⟩) λy=>bif y.1 then some ([],[],1) else Q1 (M34.m ⟨x.i,x.s⟩) λy=>Q1 (iter s0 ⟨x.l,(↑x.l.length:Int),0,x.i,x.s,y.2.2.2.2.2.2.1,y.2.2.2.2.2.2.2,y.1,y.2.1,y.2.2.1,y.2.2.2.1,y.2.2.2.2.1,y.2.2.2.2.2.1⟩) λy=>bif leB (y.oi_lo+y.oi_len) y.xs.length&&(leB (y.os_lo+y.os_len) y.ys.length&&true)&&true&&true&&true then some (List.take y.oi_len (List.drop y.oi_lo y.xs),List.take y.os_len (List.drop y.os_lo y.ys),0) else none
theorem QW(x:gX):exec E0 47 C23 0 (QX 0 (g.A x)) (g.H x) (finish 0 ty [.cell 4 29,.tmp 5] f)=m x:=by kernel_rfl
theorem tl:QA C23 0=[(0,C23.Q2 0)]:=by kernel_rfl
theorem known:QV Try.prog 23 g f m:=
 QD mixed (Q7 Q9 Q6 _) s23 rfl rfl tl (Q8.cons rfl Qe Q8.nil) (λ_ _=>⟨rfl,rfl⟩) (λ_ _=>⟨rfl,rfl⟩) QW
def con:Con:=XI g f m default
theorem Q5:Qk Try.prog 23 con:=Qa known (λ_=>rfl) rfl
end M23
namespace M22
structure gX where(i s:List (Int))
def g:Sg gX:=⟨[.agg [.arr (.int .u8),.arr (.int .u8)]],[],λa b=>⟨a.1.1,a.1.2.1⟩,λx=>((x.i,(x.s,())),()),λx=>()⟩
abbrev fY:=Int
def f:Ft fY:=⟨none,.c (.it .i64),[],λa b=>(a),λy=>y,λy=>()⟩
def cl:List (FuncId×Con):=[(29,M29.con),(36,M36.con)]
theorem Q6:QT Try.prog cl:=⟨M29.Q5,M36.Q5,trivial⟩
def R0:CC:=C22.Zf 0
def Xl:Env:=⟨ty,QJ cl,λ_=>none,none⟩
structure Kf where(v n0:Int)(bi bs:List (Int))
def bp0:Pt Kf where
 own:=[]
 t:=⟨[(2,.c (.ptr 1 0)),(11,.c (.ip (.int .u8) 0)),(1000000,.c (.clo 1000000 [])),(1000001,.c (.ptr 2 0)),(2000002,.c (.ptr 1 0))],[.st [.junk,.junk] 1 0,.st [.it .i64] 1 0,.st [.arr (.int .u8),.arr (.int .u8)] 1 0]⟩
 to:=λv=>⟨v.1.2.1,v.2.2.1.1,v.2.2.2.1.1,v.2.2.2.1.2.1⟩
 fr:=λx=>(((),(x.v,((),((),((),()))))),(((),((),())),((x.n0,()),((x.bi,(x.bs,())),()))))
structure UT where(n0:Int)(bi bs:List (Int))
def bq0:Pt UT where
 own:=[]
 t:=⟨[(1000000,.c (.clo 1000000 [])),(1000001,.c (.ptr 2 0)),(2000002,.c (.ptr 1 0))],[.st [.junk,.junk] 1 0,.st [.it .i64] 1 0,.st [.arr (.int .u8),.arr (.int .u8)] 1 0]⟩
 to:=λv=>⟨v.2.2.1.1,v.2.2.2.1.1,v.2.2.2.1.2.1⟩
 fr:=λx=>(((),((),((),()))),(((),((),())),((x.n0,()),((x.bi,(x.bs,())),()))))
def sb0(x:Kf):Option UT:=bif x.v !=2 then some { n0:=IntKind.i64.wrap (x.n0+1),bi:=x.bi,bs:=x.bs } else some { n0:=x.n0,bi:=x.bi,bs:=x.bs }
theorem U5(x:Kf):JE Xl 19 R0.rA R0.rB (bp0.R x) (bp0.H x) (Zy 0 bq0)=sb0 x:=by kernel_rfl
def ub0:QB:=mkUnit 0 bp0 bq0 sb0
theorem ta0:QA R0.rA 0=[]:=by kernel_rfl
theorem tb0:QA R0.rB R0.rA.nl=[]:=by kernel_rfl
theorem Qr{y:YI}(hy:Rnd R0.rA R0.rB R0.rP 19 y):J2 Try.prog 19 0 y.assign y.body ub0:=Jk mixed (Q7 Q9 Q6 _) rfl ⟨by kernel_rfl,by kernel_rfl⟩ (λ_=>rfl) (λ_=>rfl) (λ_=>ta0▸Q8.nil) (λl=>tb0▸Q8.nil) U5 hy
def X8:Env:=⟨ty,QJ cl,λ_=>none,some (R0.rP,ub0)⟩
theorem Zb{y:YI}(hy:Rnd R0.rA R0.rB R0.rP 19 y):Qp Try.prog 0 X8 (some y):=JA rfl (by kernel_rfl) (by kernel_rfl) Qr hy
structure QM where(n2 i2 n0:Int)(bi bs:List (Int))
def J0:Pt QM where
 own:=[]
 t:=⟨[(0,.c (.clo 1000000 [])),(1,.c (.ptr 2 0)),(22,.c (.it .i64)),(23,.c (.it .i64)),(2000002,.c (.ptr 1 0)),(3000000,.c (.fn 0))],[.st [.junk,.junk] 1 0,.st [.it .i64] 1 0,.st [.arr (.int .u8),.arr (.int .u8)] 1 0]⟩
 to:=λv=>⟨v.1.2.2.1,v.1.2.2.2.1,v.2.2.1.1,v.2.2.2.1.1,v.2.2.2.1.2.1⟩
 fr:=λx=>(((),((),(x.n2,(x.i2,((),((),())))))),(((),((),())),((x.n0,()),((x.bi,(x.bs,())),()))))
structure Qt where(n0:Int)(bi bs:List (Int))
def X4:Pt Qt where
 own:=[]
 t:=⟨[(2000002,.c (.ptr 1 0)),(3000000,.c (.fn 0))],[.st [.junk,.junk] 1 0,.st [.it .i64] 1 0,.st [.arr (.int .u8),.arr (.int .u8)] 1 0]⟩
 to:=λv=>⟨v.2.2.1.1,v.2.2.2.1.1,v.2.2.2.1.2.1⟩
 fr:=λx=>(((),((),())),(((),((),())),((x.n0,()),((x.bi,(x.bs,())),()))))
def QK(x:QM):Option (QM⊕Qt):=bif decide (x.i2<x.n2) then bif inR x.i2 x.bs.length then Q1 (sb0 { v:=x.bs[x.i2.toNat]?.getD 0,n0:=x.n0,bi:=x.bi,bs:=x.bs }) λy=>some (Sum.inl { n2:=x.n2,i2:=IntKind.i64.wrap (x.i2+1),n0:=y.n0,bi:=y.bi,bs:=y.bs }) else none
else some (Sum.inr { n0:=x.n0,bi:=x.bi,bs:=x.bs })
theorem JU(x:QM):exec X8 39 (C50.Q2 1) 2 (J0.R x) (J0.H x) (J4 0 J0 (.exit 2) X4)=QK x:=by kernel_rfl
def JY:QB:=J5 0 J0 (.exit 2) X4 QK
theorem XW:QA (C50.Q2 1) 2=[]:=by kernel_rfl
theorem JX{y:YI}(hy:Rnd R0.rA R0.rB R0.rP 19 y):QH Try.prog 39 none 0 (C50.Q2 1) JY (some y):=QQ mixed (Q7 Q9 Q6 _) (by trivial) (λ_=>rfl) (λ_=>rfl) (XW▸Q8.nil) JU (hyk:=Zb hy)
def X9:Env:=⟨ty,QJ cl,JB [(1,JY)],some (R0.rP,ub0)⟩
theorem Zc{y:YI}(hy:Rnd R0.rA R0.rB R0.rP 19 y):Qp Try.prog 0 X9 (some y):=JA rfl (by kernel_rfl) (by kernel_rfl) Qr hy
structure QN where(n i n0:Int)(bi bs:List (Int))
def J1:Pt QN where
 own:=[]
 t:=⟨[(0,.c (.clo 1000000 [])),(1,.c (.ptr 2 0)),(7,.c (.it .i64)),(8,.c (.it .i64)),(2000002,.c (.ptr 1 0)),(3000000,.c (.fn 0))],[.st [.junk,.junk] 1 0,.st [.it .i64] 1 0,.st [.arr (.int .u8),.arr (.int .u8)] 1 0]⟩
 to:=λv=>⟨v.1.2.2.1,v.1.2.2.2.1,v.2.2.1.1,v.2.2.2.1.1,v.2.2.2.1.2.1⟩
 fr:=λx=>(((),((),(x.n,(x.i,((),((),())))))),(((),((),())),((x.n0,()),((x.bi,(x.bs,())),()))))
structure Qu where(n0:Int)(bi bs:List (Int))
def X5:Pt Qu where
 own:=[]
 t:=⟨[(0,.c (.clo 1000000 [])),(1,.c (.ptr 2 0)),(2000002,.c (.ptr 1 0)),(3000000,.c (.fn 0))],[.st [.junk,.junk] 1 0,.st [.it .i64] 1 0,.st [.arr (.int .u8),.arr (.int .u8)] 1 0]⟩
 to:=λv=>⟨v.2.2.1.1,v.2.2.2.1.1,v.2.2.2.1.2.1⟩
 fr:=λx=>(((),((),((),((),())))),(((),((),())),((x.n0,()),((x.bi,(x.bs,())),()))))
def QL(x:QN):Option (QN⊕Qu):=bif decide (x.i<x.n) then bif inR x.i x.bi.length then Q1 (sb0 { v:=x.bi[x.i.toNat]?.getD 0,n0:=x.n0,bi:=x.bi,bs:=x.bs }) λy=>some (Sum.inl { n:=x.n,i:=IntKind.i64.wrap (x.i+1),n0:=y.n0,bi:=y.bi,bs:=y.bs }) else none
else some (Sum.inr { n0:=x.n0,bi:=x.bi,bs:=x.bs })
theorem JW(x:QN):exec X9 39 (C50.Q2 0) 1 (J1.R x) (J1.H x) (J4 0 J1 (.exit 0) X5)=QL x:=by kernel_rfl
def X6:QB:=J5 0 J1 (.exit 0) X5 QL
theorem XX:QA (C50.Q2 0) 1=[]:=by kernel_rfl
theorem JZ{y:YI}(hy:Rnd R0.rA R0.rB R0.rP 19 y):QH Try.prog 39 none 0 (C50.Q2 0) X6 (some y):=QQ mixed (Q7 Q9 Q6 _) (by trivial) (λ_=>rfl) (λ_=>rfl) (XX▸Q8.nil) JW (hyk:=Zc hy)
def XA:Env:=⟨ty,QJ cl,JB [(0,X6),(1,JY)],some (R0.rP,ub0)⟩
theorem Zd{y:YI}(hy:Rnd R0.rA R0.rB R0.rP 19 y):Qp Try.prog 0 XA (some y):=JA rfl (by kernel_rfl) (by kernel_rfl) Qr hy
structure p0X where(n0:Int)(bi bs:List (Int))
def p0:Pt p0X where
 own:=[]
 t:=⟨[(2,.c (.ptr 1 0)),(9,.c (.clo 50 [⟨2,0,0⟩]))],[.st [.junk,.junk] 1 0,.st [.it .i64] 1 0,.st [.arr (.int .u8),.arr (.int .u8)] 1 0]⟩
 to:=λv=>⟨v.2.2.1.1,v.2.2.2.1.1,v.2.2.2.1.2.1⟩
 fr:=λx=>(((),((),())),(((),((),())),((x.n0,()),((x.bi,(x.bs,())),()))))
structure q0X where(n0:Int)(bi bs:List (Int))
def q0:Pt q0X where
 own:=[]
 t:=⟨[(2,.c (.ptr 1 0))],[.st [.junk,.junk] 1 0,.st [.it .i64] 1 0,.st [.arr (.int .u8),.arr (.int .u8)] 1 0]⟩
 to:=λv=>⟨v.2.2.1.1,v.2.2.2.1.1,v.2.2.2.1.2.1⟩
 fr:=λx=>(((),()),(((),((),())),((x.n0,()),((x.bi,(x.bs,())),()))))
def s0(x:p0X):Option q0X:=Q1 (iter QL ⟨(↑x.bi.length:Int),0,x.n0,x.bi,x.bs⟩) λy=>Q1 (iter QK ⟨(↑y.bs.length:Int),0,y.n0,y.bi,y.bs⟩) λy=>some ⟨y.n0,y.bi,y.bs⟩
theorem Qd(x:p0X):ZA XA 39 C50 50 R0.rF (p0.R x) (p0.H x) (Xz (Zy 0 q0))=s0 x:=by kernel_rfl
def l0:QB:=mkUnit 0 p0 q0 s0
theorem ti0:QA C50 0=[(0,C50.Q2 0),(1,C50.Q2 1)]:=by kernel_rfl
theorem Qe:Z3 Try.prog 19 0 R0.rF R0.rP R0.rA R0.rB l0:=Zh mixed (Q7 Q9 Q6 _) (λhy=>Zd hy) s50 (by kernel_rfl) (λhy=>ti0▸(Q8.cons rfl (JZ hy) (Q8.cons rfl (JX hy) Q8.nil))) (λ_=>rfl) (λ_=>rfl) Qd
def E0:Env:=⟨ty,QJ cl,JB [(0,l0)],none⟩
theorem ur:Kn C22 0=[(0,R0)]:=by kernel_rfl
def m(x:gX):Option fY:=Q1 (M29.m ⟨x.i,x.s⟩) λy=>bif y !=0 then some 0 else Q1 (M36.m ⟨x.i,x.s⟩) λy=>Q1 (s0 ⟨0,y.1,y.2⟩) λy=>some y.n0
theorem QW(x:gX):exec E0 19 C22 0 (QX 0 (g.A x)) (g.H x) (finish 0 ty [.cell 2 3] f)=m x:=by kernel_rfl
theorem tl:QA C22 0=[]:=by kernel_rfl
theorem known:QV Try.prog 22 g f m:=
 QD mixed (Q7 Q9 Q6 _) s22 rfl rfl tl Q8.nil (λ_ _=>⟨rfl,rfl⟩) (λ_ _=>⟨rfl,rfl⟩) QW (hg:=Jx.of rfl (ur▸(Zs.cons rfl (by kernel_rfl) Qe Zs.nil)))
def con:Con:=XI g f m default
theorem Q5:Qk Try.prog 22 con:=Qa known (λ_=>rfl) rfl
end M22
namespace M30
structure gX where(i s:List (Int))
def g:Sg gX:=⟨[.agg [.arr (.int .u8),.arr (.int .u8)]],[],λa b=>⟨a.1.1,a.1.2.1⟩,λx=>((x.i,(x.s,())),()),λx=>()⟩
abbrev fY:=(List ((List (Int))×List (Int)))×Int
def f:Ft fY:=⟨none,.tup [.inl (.arr (.pair (.sl (.int .u8)) (.sl (.int .u8)))),.inl (.it .i64)],[],λa b=>(a.1,a.2.1),λy=>(y.1,(y.2,())),λy=>()⟩
def cl:List (FuncId×Con):=[(29,M29.con),(22,M22.con),(34,M34.con),(36,M36o.con)]
theorem Q6:QT Try.prog cl:=⟨M29.Q5,M22.Q5,M34.Q5,M36o.Q5,trivial⟩
def R1:CC:=C30.Zf 1
def EB1_0:Env:=⟨ty,QJ cl,λ_=>none,none⟩
structure bp1aX where(opn:Int)(out_lo out_len out_cap:Nat)(n i:Int)(v:Nat)(opn2:Int)(out_lo2 out_len2 out_cap2:Nat)(n2 i2:Int)(pi ps:List (Int))(out:List ((List (Int))×List (Int)))(x_lo x_len x_cap y_lo y_len y_cap:Nat)(out_r:List ((List (Int))×List (Int)))(nn:Int)(xs ys:List (Int))(left:Int)(bi_lo bi_len bi_cap bs_lo bs_len bs_cap:Nat)
def bp1a:Pt bp1aX where
 own:=[]
 t:=⟨[(1,.c (.ptr 0 0)),(5,.c (.it .i64)),(6,.c (.slc 3 0 2)),(7,.c (.ptr 4 0)),(8,.c (.ptr 7 0)),(32,.c (.it .i64)),(33,.c (.it .i64)),(48,.c (.el 5 0 1 0)),(1000000,.c (.clo 1000000 [])),(1000001,.c (.ptr 8 0)),(2000001,.c (.ptr 0 0)),(2000005,.c (.it .i64)),(2000006,.c (.slc 3 0 2)),(2000007,.c (.ptr 4 0)),(2000008,.c (.ptr 7 0)),(2000032,.c (.it .i64)),(2000033,.c (.it .i64))],[.st [.arr (.int .u8),.arr (.int .u8)] 1 0,.st [.junk] 1 0,.st [.junk] 1 0,.opn (.pair (.sl (.int .u8)) (.sl (.int .u8))) [.slc 5 0 1,.slc 6 0 1] 0,.st [.it .i64] 1 0,.arr (.int .u8) 0,.arr (.int .u8) 0,.st [.it .i64] 1 0,.st [.slc 5 0 1,.slc 6 0 1] 1 0]⟩
 to:=λv=>⟨v.1.2.1,v.1.2.2.1.1,v.1.2.2.1.2.1,v.1.2.2.1.2.2,v.1.2.2.2.2.2.1,v.1.2.2.2.2.2.2.1,v.1.2.2.2.2.2.2.2.1,v.1.2.2.2.2.2.2.2.2.2.2.2.1,v.1.2.2.2.2.2.2.2.2.2.2.2.2.1.1,v.1.2.2.2.2.2.2.2.2.2.2.2.2.1.2.1,v.1.2.2.2.2.2.2.2.2.2.2.2.2.1.2.2,v.1.2.2.2.2.2.2.2.2.2.2.2.2.2.2.2.1,v.1.2.2.2.2.2.2.2.2.2.2.2.2.2.2.2.2.1,v.2.1.1,v.2.1.2.1,v.2.2.2.2.1.1,v.2.2.2.2.1.2.1.1.1,v.2.2.2.2.1.2.1.1.2.1,v.2.2.2.2.1.2.1.1.2.2,v.2.2.2.2.1.2.1.2.1.1,v.2.2.2.2.1.2.1.2.1.2.1,v.2.2.2.2.1.2.1.2.1.2.2,v.2.2.2.2.1.2.2,v.2.2.2.2.2.1.1,v.2.2.2.2.2.2.1,v.2.2.2.2.2.2.2.1,v.2.2.2.2.2.2.2.2.1.1,v.2.2.2.2.2.2.2.2.2.1.1.1,v.2.2.2.2.2.2.2.2.2.1.1.2.1,v.2.2.2.2.2.2.2.2.2.1.1.2.2,v.2.2.2.2.2.2.2.2.2.1.2.1.1,v.2.2.2.2.2.2.2.2.2.1.2.1.2.1,v.2.2.2.2.2.2.2.2.2.1.2.1.2.2⟩
 fr:=λx=>(((),(x.opn,((x.out_lo,x.out_len,x.out_cap),((),((),(x.n,(x.i,(x.v,((),((),((),(x.opn2,((x.out_lo2,x.out_len2,x.out_cap2),((),((),(x.n2,(x.i2,()))))))))))))))))),((x.pi,(x.ps,())),(((),()),(((),()),((x.out,((x.x_lo,x.x_len,x.x_cap),((x.y_lo,x.y_len,x.y_cap),())),x.out_r),((x.nn,()),(x.xs,(x.ys,((x.left,()),(((x.bi_lo,x.bi_len,x.bi_cap),((x.bs_lo,x.bs_len,x.bs_cap),())),()))))))))))
structure bq1aX where(opn:Int)(out_lo out_len out_cap:Nat)(n i:Int)(pi ps:List (Int))(out:List ((List (Int))×List (Int)))(x_lo x_len x_cap y_lo y_len y_cap:Nat)(out_r:List ((List (Int))×List (Int)))(nn:Int)(xs ys:List (Int))(left:Int)(bi_lo bi_len bi_cap bs_lo bs_len bs_cap:Nat)
def bq1a:Pt bq1aX where
 own:=[]
 t:=⟨[(1000000,.c (.clo 1000000 [])),(1000001,.c (.ptr 8 0)),(2000001,.c (.ptr 0 0)),(2000005,.c (.it .i64)),(2000006,.c (.slc 3 0 2)),(2000007,.c (.ptr 4 0)),(2000008,.c (.ptr 7 0)),(2000032,.c (.it .i64)),(2000033,.c (.it .i64))],[.st [.arr (.int .u8),.arr (.int .u8)] 1 0,.st [.junk] 1 0,.st [.junk] 1 0,.opn (.pair (.sl (.int .u8)) (.sl (.int .u8))) [.slc 5 0 1,.slc 6 0 1] 0,.st [.it .i64] 1 0,.arr (.int .u8) 0,.arr (.int .u8) 0,.st [.it .i64] 1 0,.st [.slc 5 0 1,.slc 6 0 1] 1 0]⟩
 to:=λv=>⟨v.1.2.2.2.1,v.1.2.2.2.2.1.1,v.1.2.2.2.2.1.2.1,v.1.2.2.2.2.1.2.2,v.1.2.2.2.2.2.2.2.1,v.1.2.2.2.2.2.2.2.2.1,v.2.1.1,v.2.1.2.1,v.2.2.2.2.1.1,v.2.2.2.2.1.2.1.1.1,v.2.2.2.2.1.2.1.1.2.1,v.2.2.2.2.1.2.1.1.2.2,v.2.2.2.2.1.2.1.2.1.1,v.2.2.2.2.1.2.1.2.1.2.1,v.2.2.2.2.1.2.1.2.1.2.2,v.2.2.2.2.1.2.2,v.2.2.2.2.2.1.1,v.2.2.2.2.2.2.1,v.2.2.2.2.2.2.2.1,v.2.2.2.2.2.2.2.2.1.1,v.2.2.2.2.2.2.2.2.2.1.1.1,v.2.2.2.2.2.2.2.2.2.1.1.2.1,v.2.2.2.2.2.2.2.2.2.1.1.2.2,v.2.2.2.2.2.2.2.2.2.1.2.1.1,v.2.2.2.2.2.2.2.2.2.1.2.1.2.1,v.2.2.2.2.2.2.2.2.2.1.2.1.2.2⟩
 fr:=λx=>(((),((),((),(x.opn,((x.out_lo,x.out_len,x.out_cap),((),((),(x.n,(x.i,()))))))))),((x.pi,(x.ps,())),(((),()),(((),()),((x.out,((x.x_lo,x.x_len,x.x_cap),((x.y_lo,x.y_len,x.y_cap),())),x.out_r),((x.nn,()),(x.xs,(x.ys,((x.left,()),(((x.bi_lo,x.bi_len,x.bi_cap),((x.bs_lo,x.bs_len,x.bs_cap),())),()))))))))))
def sb1a(x:bp1aX):Option bq1aX:=bif decide (x.v<x.xs.length) then bif x.xs[x.v]?.getD 0==2 then bif decide (0<=IntKind.i64.wrap (x.left - 1)) then bif decide (x.v<x.xs.length) then some { opn:=x.opn2,out_lo:=x.out_lo2,out_len:=x.out_len2,out_cap:=x.out_cap2,n:=x.n2,i:=x.i2,pi:=x.pi,ps:=x.ps,out:=x.out,x_lo:=x.x_lo,x_len:=x.x_len,x_cap:=x.x_cap,y_lo:=x.y_lo,y_len:=x.y_len,y_cap:=x.y_cap,out_r:=x.out_r,nn:=x.nn,xs:=x.xs.set x.v (IntKind.u8.wrap (IntKind.i64.wrap (↑(BitVec.ofInt 64 (x.nn.fdiv (2^min (IntKind.i64.wrap (x.left - 1)).toNat 64))&&&BitVec.ofInt 64 1).toNat:Int))),ys:=x.ys,left:=IntKind.i64.wrap (x.left - 1),bi_lo:=x.bi_lo,bi_len:=x.bi_len,bi_cap:=x.bi_cap,bs_lo:=x.bs_lo,bs_len:=x.bs_len,bs_cap:=x.bs_cap } else none else none else some { opn:=x.opn2,out_lo:=x.out_lo2,out_len:=x.out_len2,out_cap:=x.out_cap2,n:=x.n2,i:=x.i2,pi:=x.pi,ps:=x.ps,out:=x.out,x_lo:=x.x_lo,x_len:=x.x_len,x_cap:=x.x_cap,y_lo:=x.y_lo,y_len:=x.y_len,y_cap:=x.y_cap,out_r:=x.out_r,nn:=x.nn,xs:=x.xs,ys:=x.ys,left:=x.left,bi_lo:=x.bi_lo,bi_len:=x.bi_len,bi_cap:=x.bi_cap,bs_lo:=x.bs_lo,bs_len:=x.bs_len,bs_cap:=x.bs_cap }
else none
theorem sb1a_eq(x:bp1aX):JE EB1_0 64 R1.rA R1.rB (bp1a.R x) (bp1a.H x) (Zy 0 bq1a)=sb1a x:=by kernel_rfl
def ub1a:QB:=mkUnit 0 bp1a bq1a sb1a
theorem ta1a:QA R1.rA 0=[]:=by kernel_rfl
theorem tb1a:QA R1.rB R1.rA.nl=[]:=by kernel_rfl
theorem ub1a_ok{y:YI}(hy:Rnd R1.rA R1.rB R1.rP 64 y):J2 Try.prog 64 0 y.assign y.body ub1a:=Jk mixed (Q7 Q9 Q6 _) rfl ⟨by kernel_rfl,by kernel_rfl⟩ (λ_=>rfl) (λ_=>rfl) (λ_=>ta1a▸Q8.nil) (λl=>tb1a▸Q8.nil) sb1a_eq hy
structure bp1bX where(opn:Int)(out_lo out_len out_cap:Nat)(n i:Int)(v:Nat)(opn2:Int)(out_lo2 out_len2 out_cap2:Nat)(n2 i2:Int)(pi ps:List (Int))(out:List ((List (Int))×List (Int)))(x_lo x_len x_cap y_lo y_len y_cap:Nat)(out_r:List ((List (Int))×List (Int)))(nn:Int)(xs ys:List (Int))(left:Int)(bi_lo bi_len bi_cap bs_lo bs_len bs_cap:Nat)
def bp1b:Pt bp1bX where
 own:=[]
 t:=⟨[(1,.c (.ptr 0 0)),(5,.c (.it .i64)),(6,.c (.slc 3 0 2)),(7,.c (.ptr 4 0)),(8,.c (.ptr 7 0)),(32,.c (.it .i64)),(33,.c (.it .i64)),(48,.c (.el 6 0 1 0)),(1000000,.c (.clo 1000000 [])),(1000001,.c (.ptr 8 0)),(2000001,.c (.ptr 0 0)),(2000005,.c (.it .i64)),(2000006,.c (.slc 3 0 2)),(2000007,.c (.ptr 4 0)),(2000008,.c (.ptr 7 0)),(2000032,.c (.it .i64)),(2000033,.c (.it .i64))],[.st [.arr (.int .u8),.arr (.int .u8)] 1 0,.st [.junk] 1 0,.st [.junk] 1 0,.opn (.pair (.sl (.int .u8)) (.sl (.int .u8))) [.slc 5 0 1,.slc 6 0 1] 0,.st [.it .i64] 1 0,.arr (.int .u8) 0,.arr (.int .u8) 0,.st [.it .i64] 1 0,.st [.slc 5 0 1,.slc 6 0 1] 1 0]⟩
 to:=λv=>⟨v.1.2.1,v.1.2.2.1.1,v.1.2.2.1.2.1,v.1.2.2.1.2.2,v.1.2.2.2.2.2.1,v.1.2.2.2.2.2.2.1,v.1.2.2.2.2.2.2.2.1,v.1.2.2.2.2.2.2.2.2.2.2.2.1,v.1.2.2.2.2.2.2.2.2.2.2.2.2.1.1,v.1.2.2.2.2.2.2.2.2.2.2.2.2.1.2.1,v.1.2.2.2.2.2.2.2.2.2.2.2.2.1.2.2,v.1.2.2.2.2.2.2.2.2.2.2.2.2.2.2.2.1,v.1.2.2.2.2.2.2.2.2.2.2.2.2.2.2.2.2.1,v.2.1.1,v.2.1.2.1,v.2.2.2.2.1.1,v.2.2.2.2.1.2.1.1.1,v.2.2.2.2.1.2.1.1.2.1,v.2.2.2.2.1.2.1.1.2.2,v.2.2.2.2.1.2.1.2.1.1,v.2.2.2.2.1.2.1.2.1.2.1,v.2.2.2.2.1.2.1.2.1.2.2,v.2.2.2.2.1.2.2,v.2.2.2.2.2.1.1,v.2.2.2.2.2.2.1,v.2.2.2.2.2.2.2.1,v.2.2.2.2.2.2.2.2.1.1,v.2.2.2.2.2.2.2.2.2.1.1.1,v.2.2.2.2.2.2.2.2.2.1.1.2.1,v.2.2.2.2.2.2.2.2.2.1.1.2.2,v.2.2.2.2.2.2.2.2.2.1.2.1.1,v.2.2.2.2.2.2.2.2.2.1.2.1.2.1,v.2.2.2.2.2.2.2.2.2.1.2.1.2.2⟩
 fr:=λx=>(((),(x.opn,((x.out_lo,x.out_len,x.out_cap),((),((),(x.n,(x.i,(x.v,((),((),((),(x.opn2,((x.out_lo2,x.out_len2,x.out_cap2),((),((),(x.n2,(x.i2,()))))))))))))))))),((x.pi,(x.ps,())),(((),()),(((),()),((x.out,((x.x_lo,x.x_len,x.x_cap),((x.y_lo,x.y_len,x.y_cap),())),x.out_r),((x.nn,()),(x.xs,(x.ys,((x.left,()),(((x.bi_lo,x.bi_len,x.bi_cap),((x.bs_lo,x.bs_len,x.bs_cap),())),()))))))))))
structure bq1bX where(opn:Int)(out_lo out_len out_cap:Nat)(n i:Int)(pi ps:List (Int))(out:List ((List (Int))×List (Int)))(x_lo x_len x_cap y_lo y_len y_cap:Nat)(out_r:List ((List (Int))×List (Int)))(nn:Int)(xs ys:List (Int))(left:Int)(bi_lo bi_len bi_cap bs_lo bs_len bs_cap:Nat)
def bq1b:Pt bq1bX where
 own:=[]
 t:=⟨[(1000000,.c (.clo 1000000 [])),(1000001,.c (.ptr 8 0)),(2000001,.c (.ptr 0 0)),(2000005,.c (.it .i64)),(2000006,.c (.slc 3 0 2)),(2000007,.c (.ptr 4 0)),(2000008,.c (.ptr 7 0)),(2000032,.c (.it .i64)),(2000033,.c (.it .i64))],[.st [.arr (.int .u8),.arr (.int .u8)] 1 0,.st [.junk] 1 0,.st [.junk] 1 0,.opn (.pair (.sl (.int .u8)) (.sl (.int .u8))) [.slc 5 0 1,.slc 6 0 1] 0,.st [.it .i64] 1 0,.arr (.int .u8) 0,.arr (.int .u8) 0,.st [.it .i64] 1 0,.st [.slc 5 0 1,.slc 6 0 1] 1 0]⟩
 to:=λv=>⟨v.1.2.2.2.1,v.1.2.2.2.2.1.1,v.1.2.2.2.2.1.2.1,v.1.2.2.2.2.1.2.2,v.1.2.2.2.2.2.2.2.1,v.1.2.2.2.2.2.2.2.2.1,v.2.1.1,v.2.1.2.1,v.2.2.2.2.1.1,v.2.2.2.2.1.2.1.1.1,v.2.2.2.2.1.2.1.1.2.1,v.2.2.2.2.1.2.1.1.2.2,v.2.2.2.2.1.2.1.2.1.1,v.2.2.2.2.1.2.1.2.1.2.1,v.2.2.2.2.1.2.1.2.1.2.2,v.2.2.2.2.1.2.2,v.2.2.2.2.2.1.1,v.2.2.2.2.2.2.1,v.2.2.2.2.2.2.2.1,v.2.2.2.2.2.2.2.2.1.1,v.2.2.2.2.2.2.2.2.2.1.1.1,v.2.2.2.2.2.2.2.2.2.1.1.2.1,v.2.2.2.2.2.2.2.2.2.1.1.2.2,v.2.2.2.2.2.2.2.2.2.1.2.1.1,v.2.2.2.2.2.2.2.2.2.1.2.1.2.1,v.2.2.2.2.2.2.2.2.2.1.2.1.2.2⟩
 fr:=λx=>(((),((),((),(x.opn,((x.out_lo,x.out_len,x.out_cap),((),((),(x.n,(x.i,()))))))))),((x.pi,(x.ps,())),(((),()),(((),()),((x.out,((x.x_lo,x.x_len,x.x_cap),((x.y_lo,x.y_len,x.y_cap),())),x.out_r),((x.nn,()),(x.xs,(x.ys,((x.left,()),(((x.bi_lo,x.bi_len,x.bi_cap),((x.bs_lo,x.bs_len,x.bs_cap),())),()))))))))))
def sb1b(x:bp1bX):Option bq1bX:=bif decide (x.v<x.ys.length) then bif x.ys[x.v]?.getD 0==2 then bif decide (0<=IntKind.i64.wrap (x.left - 1)) then bif decide (x.v<x.ys.length) then some { opn:=x.opn2,out_lo:=x.out_lo2,out_len:=x.out_len2,out_cap:=x.out_cap2,n:=x.n2,i:=x.i2,pi:=x.pi,ps:=x.ps,out:=x.out,x_lo:=x.x_lo,x_len:=x.x_len,x_cap:=x.x_cap,y_lo:=x.y_lo,y_len:=x.y_len,y_cap:=x.y_cap,out_r:=x.out_r,nn:=x.nn,xs:=x.xs,ys:=x.ys.set x.v (IntKind.u8.wrap (IntKind.i64.wrap (↑(BitVec.ofInt 64 (x.nn.fdiv (2^min (IntKind.i64.wrap (x.left - 1)).toNat 64))&&&BitVec.ofInt 64 1).toNat:Int))),left:=IntKind.i64.wrap (x.left - 1),bi_lo:=x.bi_lo,bi_len:=x.bi_len,bi_cap:=x.bi_cap,bs_lo:=x.bs_lo,bs_len:=x.bs_len,bs_cap:=x.bs_cap } else none else none else some { opn:=x.opn2,out_lo:=x.out_lo2,out_len:=x.out_len2,out_cap:=x.out_cap2,n:=x.n2,i:=x.i2,pi:=x.pi,ps:=x.ps,out:=x.out,x_lo:=x.x_lo,x_len:=x.x_len,x_cap:=x.x_cap,y_lo:=x.y_lo,y_len:=x.y_len,y_cap:=x.y_cap,out_r:=x.out_r,nn:=x.nn,xs:=x.xs,ys:=x.ys,left:=x.left,bi_lo:=x.bi_lo,bi_len:=x.bi_len,bi_cap:=x.bi_cap,bs_lo:=x.bs_lo,bs_len:=x.bs_len,bs_cap:=x.bs_cap }
else none
theorem sb1b_eq(x:bp1bX):JE EB1_0 64 R1.rA R1.rB (bp1b.R x) (bp1b.H x) (Zy 0 bq1b)=sb1b x:=by kernel_rfl
def ub1b:QB:=mkUnit 0 bp1b bq1b sb1b
theorem ta1b:QA R1.rA 0=[]:=by kernel_rfl
theorem tb1b:QA R1.rB R1.rA.nl=[]:=by kernel_rfl
theorem ub1b_ok{y:YI}(hy:Rnd R1.rA R1.rB R1.rP 64 y):J2 Try.prog 64 0 y.assign y.body ub1b:=Jk mixed (Q7 Q9 Q6 _) rfl ⟨by kernel_rfl,by kernel_rfl⟩ (λ_=>rfl) (λ_=>rfl) (λ_=>ta1b▸Q8.nil) (λl=>tb1b▸Q8.nil) sb1b_eq hy
def ub1:QB:=.alt ub1a ub1b
theorem ub1_ok{y:YI}(hy:Rnd R1.rA R1.rB R1.rP 64 y):J2 Try.prog 64 0 y.assign y.body ub1:=⟨ub1a_ok hy,ub1b_ok hy⟩
def EI1_2:Env:=⟨ty,QJ cl,λ_=>none,some (R1.rP,ub1)⟩
theorem yi1_2{y:YI}(hy:Rnd R1.rA R1.rB R1.rP 64 y):Qp Try.prog 0 EI1_2 (some y):=JA rfl (by kernel_rfl) (by kernel_rfl) ub1_ok hy
structure Vj where(n2 i2 opn:Int)(out_lo out_len out_cap:Nat)(n i:Int)(pi ps:List (Int))(out:List ((List (Int))×List (Int)))(x_lo x_len x_cap y_lo y_len y_cap:Nat)(out_r:List ((List (Int))×List (Int)))(nn:Int)(xs ys:List (Int))(left:Int)(bi_lo bi_len bi_cap bs_lo bs_len bs_cap:Nat)
def i1_p1:Pt Vj where
 own:=[]
 t:=⟨[(0,.c (.clo 1000000 [])),(1,.c (.ptr 8 0)),(22,.c (.it .i64)),(23,.c (.it .i64)),(2000001,.c (.ptr 0 0)),(2000005,.c (.it .i64)),(2000006,.c (.slc 3 0 2)),(2000007,.c (.ptr 4 0)),(2000008,.c (.ptr 7 0)),(2000032,.c (.it .i64)),(2000033,.c (.it .i64)),(3000000,.c (.fn 0))],[.st [.arr (.int .u8),.arr (.int .u8)] 1 0,.st [.junk] 1 0,.st [.junk] 1 0,.opn (.pair (.sl (.int .u8)) (.sl (.int .u8))) [.slc 5 0 1,.slc 6 0 1] 0,.st [.it .i64] 1 0,.arr (.int .u8) 0,.arr (.int .u8) 0,.st [.it .i64] 1 0,.st [.slc 5 0 1,.slc 6 0 1] 1 0]⟩
 to:=λv=>⟨v.1.2.2.1,v.1.2.2.2.1,v.1.2.2.2.2.2.1,v.1.2.2.2.2.2.2.1.1,v.1.2.2.2.2.2.2.1.2.1,v.1.2.2.2.2.2.2.1.2.2,v.1.2.2.2.2.2.2.2.2.2.1,v.1.2.2.2.2.2.2.2.2.2.2.1,v.2.1.1,v.2.1.2.1,v.2.2.2.2.1.1,v.2.2.2.2.1.2.1.1.1,v.2.2.2.2.1.2.1.1.2.1,v.2.2.2.2.1.2.1.1.2.2,v.2.2.2.2.1.2.1.2.1.1,v.2.2.2.2.1.2.1.2.1.2.1,v.2.2.2.2.1.2.1.2.1.2.2,v.2.2.2.2.1.2.2,v.2.2.2.2.2.1.1,v.2.2.2.2.2.2.1,v.2.2.2.2.2.2.2.1,v.2.2.2.2.2.2.2.2.1.1,v.2.2.2.2.2.2.2.2.2.1.1.1,v.2.2.2.2.2.2.2.2.2.1.1.2.1,v.2.2.2.2.2.2.2.2.2.1.1.2.2,v.2.2.2.2.2.2.2.2.2.1.2.1.1,v.2.2.2.2.2.2.2.2.2.1.2.1.2.1,v.2.2.2.2.2.2.2.2.2.1.2.1.2.2⟩
 fr:=λx=>(((),((),(x.n2,(x.i2,((),(x.opn,((x.out_lo,x.out_len,x.out_cap),((),((),(x.n,(x.i,((),())))))))))))),((x.pi,(x.ps,())),(((),()),(((),()),((x.out,((x.x_lo,x.x_len,x.x_cap),((x.y_lo,x.y_len,x.y_cap),())),x.out_r),((x.nn,()),(x.xs,(x.ys,((x.left,()),(((x.bi_lo,x.bi_len,x.bi_cap),((x.bs_lo,x.bs_len,x.bs_cap),())),()))))))))))
structure i1_q1X where(opn:Int)(out_lo out_len out_cap:Nat)(n i:Int)(pi ps:List (Int))(out:List ((List (Int))×List (Int)))(x_lo x_len x_cap y_lo y_len y_cap:Nat)(out_r:List ((List (Int))×List (Int)))(nn:Int)(xs ys:List (Int))(left:Int)(bi_lo bi_len bi_cap bs_lo bs_len bs_cap:Nat)
def i1_q1:Pt i1_q1X where
 own:=[]
 t:=⟨[(2000001,.c (.ptr 0 0)),(2000005,.c (.it .i64)),(2000006,.c (.slc 3 0 2)),(2000007,.c (.ptr 4 0)),(2000008,.c (.ptr 7 0)),(2000032,.c (.it .i64)),(2000033,.c (.it .i64)),(3000000,.c (.fn 0))],[.st [.arr (.int .u8),.arr (.int .u8)] 1 0,.st [.junk] 1 0,.st [.junk] 1 0,.opn (.pair (.sl (.int .u8)) (.sl (.int .u8))) [.slc 5 0 1,.slc 6 0 1] 0,.st [.it .i64] 1 0,.arr (.int .u8) 0,.arr (.int .u8) 0,.st [.it .i64] 1 0,.st [.slc 5 0 1,.slc 6 0 1] 1 0]⟩
 to:=λv=>⟨v.1.2.1,v.1.2.2.1.1,v.1.2.2.1.2.1,v.1.2.2.1.2.2,v.1.2.2.2.2.2.1,v.1.2.2.2.2.2.2.1,v.2.1.1,v.2.1.2.1,v.2.2.2.2.1.1,v.2.2.2.2.1.2.1.1.1,v.2.2.2.2.1.2.1.1.2.1,v.2.2.2.2.1.2.1.1.2.2,v.2.2.2.2.1.2.1.2.1.1,v.2.2.2.2.1.2.1.2.1.2.1,v.2.2.2.2.1.2.1.2.1.2.2,v.2.2.2.2.1.2.2,v.2.2.2.2.2.1.1,v.2.2.2.2.2.2.1,v.2.2.2.2.2.2.2.1,v.2.2.2.2.2.2.2.2.1.1,v.2.2.2.2.2.2.2.2.2.1.1.1,v.2.2.2.2.2.2.2.2.2.1.1.2.1,v.2.2.2.2.2.2.2.2.2.1.1.2.2,v.2.2.2.2.2.2.2.2.2.1.2.1.1,v.2.2.2.2.2.2.2.2.2.1.2.1.2.1,v.2.2.2.2.2.2.2.2.2.1.2.1.2.2⟩
 fr:=λx=>(((),(x.opn,((x.out_lo,x.out_len,x.out_cap),((),((),(x.n,(x.i,((),())))))))),((x.pi,(x.ps,())),(((),()),(((),()),((x.out,((x.x_lo,x.x_len,x.x_cap),((x.y_lo,x.y_len,x.y_cap),())),x.out_r),((x.nn,()),(x.xs,(x.ys,((x.left,()),(((x.bi_lo,x.bi_len,x.bi_cap),((x.bs_lo,x.bs_len,x.bs_cap),())),()))))))))))
def qH(x:Vj):Option (Vj⊕i1_q1X):=bif decide (x.i2<x.n2) then bif inR x.i2 x.bs_len then Q1 (sb1b { opn:=x.opn,out_lo:=x.out_lo,out_len:=x.out_len,out_cap:=x.out_cap,n:=x.n,i:=x.i,v:=x.bs_lo+x.i2.toNat,opn2:=x.opn,out_lo2:=x.out_lo,out_len2:=x.out_len,out_cap2:=x.out_cap,n2:=x.n,i2:=x.i,pi:=x.pi,ps:=x.ps,out:=x.out,x_lo:=x.x_lo,x_len:=x.x_len,x_cap:=x.x_cap,y_lo:=x.y_lo,y_len:=x.y_len,y_cap:=x.y_cap,out_r:=x.out_r,nn:=x.nn,xs:=x.xs,ys:=x.ys,left:=x.left,bi_lo:=x.bi_lo,bi_len:=x.bi_len,bi_cap:=x.bi_cap,bs_lo:=x.bs_lo,bs_len:=x.bs_len,bs_cap:=x.bs_cap }) λy=>some (Sum.inl { n2:=x.n2,i2:=IntKind.i64.wrap (x.i2+1),opn:=y.opn,out_lo:=y.out_lo,out_len:=y.out_len,out_cap:=y.out_cap,n:=y.n,i:=y.i,pi:=y.pi,ps:=y.ps,out:=y.out,x_lo:=y.x_lo,x_len:=y.x_len,x_cap:=y.x_cap,y_lo:=y.y_lo,y_len:=y.y_len,y_cap:=y.y_cap,out_r:=y.out_r,nn:=y.nn,xs:=y.xs,ys:=y.ys,left:=y.left,bi_lo:=y.bi_lo,bi_len:=y.bi_len,bi_cap:=y.bi_cap,bs_lo:=y.bs_lo,bs_len:=y.bs_len,bs_cap:=y.bs_cap }) else none
else
 some
  (Sum.inr
   {opn:=x.opn,out_lo:=x.out_lo,out_len:=x.out_len,out_cap:=x.out_cap,n:=x.n,i:=x.i,pi:=x.pi,ps:=x.ps,out:=x.out,x_lo:=x.x_lo,x_len:=x.x_len,
    x_cap:=x.x_cap,y_lo:=x.y_lo,y_len:=x.y_len,y_cap:=x.y_cap,out_r:=x.out_r,nn:=x.nn,xs:=x.xs,ys:=x.ys,left:=x.left,bi_lo:=x.bi_lo,
    bi_len:=x.bi_len,bi_cap:=x.bi_cap,bs_lo:=x.bs_lo,bs_len:=x.bs_len,bs_cap:=x.bs_cap })
theorem i1_s1_eq(x:Vj):exec EI1_2 39 (C50.Q2 1) 2 (i1_p1.R x) (i1_p1.H x) (J4 0 i1_p1 (.exit 2) i1_q1)=qH x:=by kernel_rfl
def i1_l1:QB:=J5 0 i1_p1 (.exit 2) i1_q1 qH
theorem ti1_l1:QA (C50.Q2 1) 2=[]:=by kernel_rfl
theorem i1_l1_ok{y:YI}(hy:Rnd R1.rA R1.rB R1.rP 64 y):QH Try.prog 39 none 0 (C50.Q2 1) i1_l1 (some y):=QQ mixed (Q7 Q9 Q6 _) (by trivial) (λ_=>rfl) (λ_=>rfl) (ti1_l1▸Q8.nil) i1_s1_eq (hyk:=yi1_2 hy)
def EI1_1:Env:=⟨ty,QJ cl,JB [(1,i1_l1)],some (R1.rP,ub1)⟩
theorem yi1_1{y:YI}(hy:Rnd R1.rA R1.rB R1.rP 64 y):Qp Try.prog 0 EI1_1 (some y):=JA rfl (by kernel_rfl) (by kernel_rfl) ub1_ok hy
structure Vk where(n i opn:Int)(out_lo out_len out_cap:Nat)(n2 i2:Int)(pi ps:List (Int))(out:List ((List (Int))×List (Int)))(x_lo x_len x_cap y_lo y_len y_cap:Nat)(out_r:List ((List (Int))×List (Int)))(nn:Int)(xs ys:List (Int))(left:Int)(bi_lo bi_len bi_cap bs_lo bs_len bs_cap:Nat)
def i1_p0:Pt Vk where
 own:=[]
 t:=⟨[(0,.c (.clo 1000000 [])),(1,.c (.ptr 8 0)),(7,.c (.it .i64)),(8,.c (.it .i64)),(2000001,.c (.ptr 0 0)),(2000005,.c (.it .i64)),(2000006,.c (.slc 3 0 2)),(2000007,.c (.ptr 4 0)),(2000008,.c (.ptr 7 0)),(2000032,.c (.it .i64)),(2000033,.c (.it .i64)),(3000000,.c (.fn 0))],[.st [.arr (.int .u8),.arr (.int .u8)] 1 0,.st [.junk] 1 0,.st [.junk] 1 0,.opn (.pair (.sl (.int .u8)) (.sl (.int .u8))) [.slc 5 0 1,.slc 6 0 1] 0,.st [.it .i64] 1 0,.arr (.int .u8) 0,.arr (.int .u8) 0,.st [.it .i64] 1 0,.st [.slc 5 0 1,.slc 6 0 1] 1 0]⟩
 to:=λv=>⟨v.1.2.2.1,v.1.2.2.2.1,v.1.2.2.2.2.2.1,v.1.2.2.2.2.2.2.1.1,v.1.2.2.2.2.2.2.1.2.1,v.1.2.2.2.2.2.2.1.2.2,v.1.2.2.2.2.2.2.2.2.2.1,v.1.2.2.2.2.2.2.2.2.2.2.1,v.2.1.1,v.2.1.2.1,v.2.2.2.2.1.1,v.2.2.2.2.1.2.1.1.1,v.2.2.2.2.1.2.1.1.2.1,v.2.2.2.2.1.2.1.1.2.2,v.2.2.2.2.1.2.1.2.1.1,v.2.2.2.2.1.2.1.2.1.2.1,v.2.2.2.2.1.2.1.2.1.2.2,v.2.2.2.2.1.2.2,v.2.2.2.2.2.1.1,v.2.2.2.2.2.2.1,v.2.2.2.2.2.2.2.1,v.2.2.2.2.2.2.2.2.1.1,v.2.2.2.2.2.2.2.2.2.1.1.1,v.2.2.2.2.2.2.2.2.2.1.1.2.1,v.2.2.2.2.2.2.2.2.2.1.1.2.2,v.2.2.2.2.2.2.2.2.2.1.2.1.1,v.2.2.2.2.2.2.2.2.2.1.2.1.2.1,v.2.2.2.2.2.2.2.2.2.1.2.1.2.2⟩
 fr:=λx=>(((),((),(x.n,(x.i,((),(x.opn,((x.out_lo,x.out_len,x.out_cap),((),((),(x.n2,(x.i2,((),())))))))))))),((x.pi,(x.ps,())),(((),()),(((),()),((x.out,((x.x_lo,x.x_len,x.x_cap),((x.y_lo,x.y_len,x.y_cap),())),x.out_r),((x.nn,()),(x.xs,(x.ys,((x.left,()),(((x.bi_lo,x.bi_len,x.bi_cap),((x.bs_lo,x.bs_len,x.bs_cap),())),()))))))))))
structure i1_q0X where(opn:Int)(out_lo out_len out_cap:Nat)(n i:Int)(pi ps:List (Int))(out:List ((List (Int))×List (Int)))(x_lo x_len x_cap y_lo y_len y_cap:Nat)(out_r:List ((List (Int))×List (Int)))(nn:Int)(xs ys:List (Int))(left:Int)(bi_lo bi_len bi_cap bs_lo bs_len bs_cap:Nat)
def i1_q0:Pt i1_q0X where
 own:=[]
 t:=⟨[(0,.c (.clo 1000000 [])),(1,.c (.ptr 8 0)),(2000001,.c (.ptr 0 0)),(2000005,.c (.it .i64)),(2000006,.c (.slc 3 0 2)),(2000007,.c (.ptr 4 0)),(2000008,.c (.ptr 7 0)),(2000032,.c (.it .i64)),(2000033,.c (.it .i64)),(3000000,.c (.fn 0))],[.st [.arr (.int .u8),.arr (.int .u8)] 1 0,.st [.junk] 1 0,.st [.junk] 1 0,.opn (.pair (.sl (.int .u8)) (.sl (.int .u8))) [.slc 5 0 1,.slc 6 0 1] 0,.st [.it .i64] 1 0,.arr (.int .u8) 0,.arr (.int .u8) 0,.st [.it .i64] 1 0,.st [.slc 5 0 1,.slc 6 0 1] 1 0]⟩
 to:=λv=>⟨v.1.2.2.2.1,v.1.2.2.2.2.1.1,v.1.2.2.2.2.1.2.1,v.1.2.2.2.2.1.2.2,v.1.2.2.2.2.2.2.2.1,v.1.2.2.2.2.2.2.2.2.1,v.2.1.1,v.2.1.2.1,v.2.2.2.2.1.1,v.2.2.2.2.1.2.1.1.1,v.2.2.2.2.1.2.1.1.2.1,v.2.2.2.2.1.2.1.1.2.2,v.2.2.2.2.1.2.1.2.1.1,v.2.2.2.2.1.2.1.2.1.2.1,v.2.2.2.2.1.2.1.2.1.2.2,v.2.2.2.2.1.2.2,v.2.2.2.2.2.1.1,v.2.2.2.2.2.2.1,v.2.2.2.2.2.2.2.1,v.2.2.2.2.2.2.2.2.1.1,v.2.2.2.2.2.2.2.2.2.1.1.1,v.2.2.2.2.2.2.2.2.2.1.1.2.1,v.2.2.2.2.2.2.2.2.2.1.1.2.2,v.2.2.2.2.2.2.2.2.2.1.2.1.1,v.2.2.2.2.2.2.2.2.2.1.2.1.2.1,v.2.2.2.2.2.2.2.2.2.1.2.1.2.2⟩
 fr:=λx=>(((),((),((),(x.opn,((x.out_lo,x.out_len,x.out_cap),((),((),(x.n,(x.i,((),())))))))))),((x.pi,(x.ps,())),(((),()),(((),()),((x.out,((x.x_lo,x.x_len,x.x_cap),((x.y_lo,x.y_len,x.y_cap),())),x.out_r),((x.nn,()),(x.xs,(x.ys,((x.left,()),(((x.bi_lo,x.bi_len,x.bi_cap),((x.bs_lo,x.bs_len,x.bs_cap),())),()))))))))))
def qI(x:Vk):Option (Vk⊕i1_q0X):=bif decide (x.i<x.n) then bif inR x.i x.bi_len then Q1 (sb1a { opn:=x.opn,out_lo:=x.out_lo,out_len:=x.out_len,out_cap:=x.out_cap,n:=x.n2,i:=x.i2,v:=x.bi_lo+x.i.toNat,opn2:=x.opn,out_lo2:=x.out_lo,out_len2:=x.out_len,out_cap2:=x.out_cap,n2:=x.n2,i2:=x.i2,pi:=x.pi,ps:=x.ps,out:=x.out,x_lo:=x.x_lo,x_len:=x.x_len,x_cap:=x.x_cap,y_lo:=x.y_lo,y_len:=x.y_len,y_cap:=x.y_cap,out_r:=x.out_r,nn:=x.nn,xs:=x.xs,ys:=x.ys,left:=x.left,bi_lo:=x.bi_lo,bi_len:=x.bi_len,bi_cap:=x.bi_cap,bs_lo:=x.bs_lo,bs_len:=x.bs_len,bs_cap:=x.bs_cap }) λy=>some (Sum.inl { n:=x.n,i:=IntKind.i64.wrap (x.i+1),opn:=y.opn,out_lo:=y.out_lo,out_len:=y.out_len,out_cap:=y.out_cap,n2:=y.n,i2:=y.i,pi:=y.pi,ps:=y.ps,out:=y.out,x_lo:=y.x_lo,x_len:=y.x_len,x_cap:=y.x_cap,y_lo:=y.y_lo,y_len:=y.y_len,y_cap:=y.y_cap,out_r:=y.out_r,nn:=y.nn,xs:=y.xs,ys:=y.ys,left:=y.left,bi_lo:=y.bi_lo,bi_len:=y.bi_len,bi_cap:=y.bi_cap,bs_lo:=y.bs_lo,bs_len:=y.bs_len,bs_cap:=y.bs_cap }) else none
else
 some
  (Sum.inr
   {opn:=x.opn,out_lo:=x.out_lo,out_len:=x.out_len,out_cap:=x.out_cap,n:=x.n2,i:=x.i2,pi:=x.pi,ps:=x.ps,out:=x.out,x_lo:=x.x_lo,x_len:=x.x_len,
    x_cap:=x.x_cap,y_lo:=x.y_lo,y_len:=x.y_len,y_cap:=x.y_cap,out_r:=x.out_r,nn:=x.nn,xs:=x.xs,ys:=x.ys,left:=x.left,bi_lo:=x.bi_lo,
    bi_len:=x.bi_len,bi_cap:=x.bi_cap,bs_lo:=x.bs_lo,bs_len:=x.bs_len,bs_cap:=x.bs_cap })
theorem i1_s0_eq(x:Vk):exec EI1_1 39 (C50.Q2 0) 1 (i1_p0.R x) (i1_p0.H x) (J4 0 i1_p0 (.exit 0) i1_q0)=qI x:=by kernel_rfl
def i1_l0:QB:=J5 0 i1_p0 (.exit 0) i1_q0 qI
theorem ti1_l0:QA (C50.Q2 0) 1=[]:=by kernel_rfl
theorem i1_l0_ok{y:YI}(hy:Rnd R1.rA R1.rB R1.rP 64 y):QH Try.prog 39 none 0 (C50.Q2 0) i1_l0 (some y):=QQ mixed (Q7 Q9 Q6 _) (by trivial) (λ_=>rfl) (λ_=>rfl) (ti1_l0▸Q8.nil) i1_s0_eq (hyk:=yi1_1 hy)
def EI1_0:Env:=⟨ty,QJ cl,JB [(0,i1_l0),(1,i1_l1)],some (R1.rP,ub1)⟩
theorem yi1_0{y:YI}(hy:Rnd R1.rA R1.rB R1.rP 64 y):Qp Try.prog 0 EI1_0 (some y):=JA rfl (by kernel_rfl) (by kernel_rfl) ub1_ok hy
structure p1X where(opn:Int)(out_lo out_len out_cap:Nat)(n i:Int)(pi ps:List (Int))(out:List ((List (Int))×List (Int)))(x_lo x_len x_cap y_lo y_len y_cap:Nat)(out_r:List ((List (Int))×List (Int)))(nn:Int)(xs ys:List (Int))(left:Int)(bi_lo bi_len bi_cap bs_lo bs_len bs_cap:Nat)
def p1:Pt p1X where
 own:=[]
 t:=⟨[(1,.c (.ptr 0 0)),(5,.c (.it .i64)),(6,.c (.slc 3 0 2)),(7,.c (.ptr 4 0)),(8,.c (.ptr 7 0)),(32,.c (.it .i64)),(33,.c (.it .i64)),(46,.c (.clo 50 [⟨8,0,0⟩]))],[.st [.arr (.int .u8),.arr (.int .u8)] 1 0,.st [.junk] 1 0,.st [.junk] 1 0,.opn (.pair (.sl (.int .u8)) (.sl (.int .u8))) [.slc 5 0 1,.slc 6 0 1] 0,.st [.it .i64] 1 0,.arr (.int .u8) 0,.arr (.int .u8) 0,.st [.it .i64] 1 0,.st [.slc 5 0 1,.slc 6 0 1] 1 0]⟩
 to:=λv=>⟨v.1.2.1,v.1.2.2.1.1,v.1.2.2.1.2.1,v.1.2.2.1.2.2,v.1.2.2.2.2.2.1,v.1.2.2.2.2.2.2.1,v.2.1.1,v.2.1.2.1,v.2.2.2.2.1.1,v.2.2.2.2.1.2.1.1.1,v.2.2.2.2.1.2.1.1.2.1,v.2.2.2.2.1.2.1.1.2.2,v.2.2.2.2.1.2.1.2.1.1,v.2.2.2.2.1.2.1.2.1.2.1,v.2.2.2.2.1.2.1.2.1.2.2,v.2.2.2.2.1.2.2,v.2.2.2.2.2.1.1,v.2.2.2.2.2.2.1,v.2.2.2.2.2.2.2.1,v.2.2.2.2.2.2.2.2.1.1,v.2.2.2.2.2.2.2.2.2.1.1.1,v.2.2.2.2.2.2.2.2.2.1.1.2.1,v.2.2.2.2.2.2.2.2.2.1.1.2.2,v.2.2.2.2.2.2.2.2.2.1.2.1.1,v.2.2.2.2.2.2.2.2.2.1.2.1.2.1,v.2.2.2.2.2.2.2.2.2.1.2.1.2.2⟩
 fr:=λx=>(((),(x.opn,((x.out_lo,x.out_len,x.out_cap),((),((),(x.n,(x.i,((),())))))))),((x.pi,(x.ps,())),(((),()),(((),()),((x.out,((x.x_lo,x.x_len,x.x_cap),((x.y_lo,x.y_len,x.y_cap),())),x.out_r),((x.nn,()),(x.xs,(x.ys,((x.left,()),(((x.bi_lo,x.bi_len,x.bi_cap),((x.bs_lo,x.bs_len,x.bs_cap),())),()))))))))))
structure q1X where(opn:Int)(out_lo out_len out_cap:Nat)(n i:Int)(pi ps:List (Int))(out:List ((List (Int))×List (Int)))(x_lo x_len x_cap y_lo y_len y_cap:Nat)(out_r:List ((List (Int))×List (Int)))(nn:Int)(xs ys:List (Int))(left:Int)(bi_lo bi_len bi_cap bs_lo bs_len bs_cap:Nat)
def q1:Pt q1X where
 own:=[]
 t:=⟨[(1,.c (.ptr 0 0)),(5,.c (.it .i64)),(6,.c (.slc 3 0 2)),(7,.c (.ptr 4 0)),(8,.c (.ptr 7 0)),(32,.c (.it .i64)),(33,.c (.it .i64))],[.st [.arr (.int .u8),.arr (.int .u8)] 1 0,.st [.junk] 1 0,.st [.junk] 1 0,.opn (.pair (.sl (.int .u8)) (.sl (.int .u8))) [.slc 5 0 1,.slc 6 0 1] 0,.st [.it .i64] 1 0,.arr (.int .u8) 0,.arr (.int .u8) 0,.st [.it .i64] 1 0,.st [.slc 5 0 1,.slc 6 0 1] 1 0]⟩
 to:=λv=>⟨v.1.2.1,v.1.2.2.1.1,v.1.2.2.1.2.1,v.1.2.2.1.2.2,v.1.2.2.2.2.2.1,v.1.2.2.2.2.2.2.1,v.2.1.1,v.2.1.2.1,v.2.2.2.2.1.1,v.2.2.2.2.1.2.1.1.1,v.2.2.2.2.1.2.1.1.2.1,v.2.2.2.2.1.2.1.1.2.2,v.2.2.2.2.1.2.1.2.1.1,v.2.2.2.2.1.2.1.2.1.2.1,v.2.2.2.2.1.2.1.2.1.2.2,v.2.2.2.2.1.2.2,v.2.2.2.2.2.1.1,v.2.2.2.2.2.2.1,v.2.2.2.2.2.2.2.1,v.2.2.2.2.2.2.2.2.1.1,v.2.2.2.2.2.2.2.2.2.1.1.1,v.2.2.2.2.2.2.2.2.2.1.1.2.1,v.2.2.2.2.2.2.2.2.2.1.1.2.2,v.2.2.2.2.2.2.2.2.2.1.2.1.1,v.2.2.2.2.2.2.2.2.2.1.2.1.2.1,v.2.2.2.2.2.2.2.2.2.1.2.1.2.2⟩
 fr:=λx=>(((),(x.opn,((x.out_lo,x.out_len,x.out_cap),((),((),(x.n,(x.i,()))))))),((x.pi,(x.ps,())),(((),()),(((),()),((x.out,((x.x_lo,x.x_len,x.x_cap),((x.y_lo,x.y_len,x.y_cap),())),x.out_r),((x.nn,()),(x.xs,(x.ys,((x.left,()),(((x.bi_lo,x.bi_len,x.bi_cap),((x.bs_lo,x.bs_len,x.bs_cap),())),()))))))))))
def s1(x:p1X):Option q1X:=Q1 (iter qI ⟨(↑x.bi_len:Int),0,x.opn,x.out_lo,x.out_len,x.out_cap,x.n,x.i,x.pi,x.ps,x.out,x.x_lo,x.x_len,x.x_cap,x.y_lo,x.y_len,x.y_cap,x.out_r,x.nn,x.xs,x.ys,x.left,x.bi_lo,x.bi_len,x.bi_cap,x.bs_lo,x.bs_len,x.bs_cap⟩) λy=>Q1 (iter qH ⟨(↑y.bs_len:Int),0,y.opn,y.out_lo,y.out_len,y.out_cap,y.n,y.i,y.pi,y.ps,y.out,y.x_lo,y.x_len,y.x_cap,y.y_lo,y.y_len,y.y_cap,y.out_r,y.nn,y.xs,y.ys,y.left,y.bi_lo,y.bi_len,y.bi_cap,y.bs_lo,y.bs_len,y.bs_cap⟩) λy=>some ⟨y.opn,y.out_lo,y.out_len,y.out_cap,y.n,y.i,y.pi,y.ps,y.out,y.x_lo,y.x_len,y.x_cap,y.y_lo,y.y_len,y.y_cap,y.out_r,y.nn,y.xs,y.ys,y.left,y.bi_lo,y.bi_len,y.bi_cap,y.bs_lo,y.bs_len,y.bs_cap⟩
theorem YT(x:p1X):ZA EI1_0 39 C50 50 R1.rF (p1.R x) (p1.H x) (Xz (Zy 0 q1))=s1 x:=by kernel_rfl
def l1:QB:=mkUnit 0 p1 q1 s1
theorem ti1:QA C50 0=[(0,C50.Q2 0),(1,C50.Q2 1)]:=by kernel_rfl
theorem Yd:Z3 Try.prog 64 0 R1.rF R1.rP R1.rA R1.rB l1:=Zh mixed (Q7 Q9 Q6 _) (λhy=>yi1_0 hy) s50 (by kernel_rfl) (λhy=>ti1▸(Q8.cons rfl (i1_l0_ok hy) (Q8.cons rfl (i1_l1_ok hy) Q8.nil))) (λ_=>rfl) (λ_=>rfl) YT
def E1:Env:=⟨ty,QJ cl,JB [(1,l1)],none⟩
theorem u0:Kn (C30.Q2 0) 1=[(1,R1)]:=by kernel_rfl
structure p0X where(opn:Int)(out_lo out_len out_cap:Nat)(n i:Int)(pi ps:List (Int))(out:List ((List (Int))×List (Int)))
def p0:Pt p0X where
 own:=[]
 t:=⟨[(1,.c (.ptr 0 0)),(5,.c (.it .i64)),(6,.c (.slc 3 0 2)),(32,.c (.it .i64)),(33,.c (.it .i64))],[.st [.arr (.int .u8),.arr (.int .u8)] 1 0,.st [.junk] 1 0,.st [.junk] 1 0,.arr (.pair (.sl (.int .u8)) (.sl (.int .u8))) 0]⟩
 to:=λv=>⟨v.1.2.1,v.1.2.2.1.1,v.1.2.2.1.2.1,v.1.2.2.1.2.2,v.1.2.2.2.1,v.1.2.2.2.2.1,v.2.1.1,v.2.1.2.1,v.2.2.2.2.1⟩
 fr:=λx=>(((),(x.opn,((x.out_lo,x.out_len,x.out_cap),(x.n,(x.i,()))))),((x.pi,(x.ps,())),(((),()),(((),()),(x.out,())))))
structure q0X where(out_lo out_len out_cap:Nat)(pi ps:List (Int))(out:List ((List (Int))×List (Int)))
def q0:Pt q0X where
 own:=[]
 t:=⟨[(6,.c (.slc 3 0 2))],[.st [.arr (.int .u8),.arr (.int .u8)] 1 0,.st [.junk] 1 0,.st [.junk] 1 0,.arr (.pair (.sl (.int .u8)) (.sl (.int .u8))) 0]⟩
 to:=λv=>⟨v.1.1.1,v.1.1.2.1,v.1.1.2.2,v.2.1.1,v.2.1.2.1,v.2.2.2.2.1⟩
 fr:=λx=>(((x.out_lo,x.out_len,x.out_cap),()),((x.pi,(x.ps,())),(((),()),(((),()),(x.out,())))))
def s0(x:p0X):Option (p0X⊕q0X):=bif decide (x.i<x.n) then Q1 (M34.m ⟨x.pi,x.ps⟩) λy=>bif inR x.i x.out_len then bif decide (x.out_lo+x.i.toNat<x.out.length) then bif inR x.i x.out_len then bif eqN (x.out_lo+x.i.toNat) (List.take (x.out_lo+x.i.toNat) x.out).length then Q1 (M36o.m ⟨y.1,y.2.1,y.2.2.1,y.2.2.2.1,y.2.2.2.2.1,y.2.2.2.2.2.1,y.2.2.2.2.2.2.1,y.2.2.2.2.2.2.2⟩) λy_1=>Q1 (s1 ⟨x.opn,x.out_lo,x.out_len,x.out_cap,x.n,x.i,x.pi,x.ps,List.take (x.out_lo+x.i.toNat) x.out,y.1,y.2.1,y.2.2.1,y.2.2.2.1,y.2.2.2.2.1,y.2.2.2.2.2.1,List.drop (x.out_lo+x.i.toNat+1) x.out,x.i,y_1.1,y_1.2.1,x.opn,y_1.2.2.1,y_1.2.2.2.1,y_1.2.2.2.2.1,y_1.2.2.2.2.2.1,y_1.2.2.2.2.2.2.1,y_1.2.2.2.2.2.2.2⟩) λy=>bif leB (y.x_lo+y.x_len) y.xs.length&&(leB (y.y_lo+y.y_len) y.ys.length&&true)&&true then some (Sum.inl ⟨y.opn,y.out_lo,y.out_len,y.out_cap,y.n,IntKind.i64.wrap (y.i+1),y.pi,y.ps,y.out++(List.take y.x_len (List.drop y.x_lo y.xs),List.take y.y_len (List.drop y.y_lo y.ys))::y.out_r⟩) else none else none else none else none else none else some (Sum.inr ⟨x.out_lo,x.out_len,x.out_cap,x.pi,x.ps,x.out⟩)
theorem Qd(x:p0X):exec E1 64 (C30.Q2 0) 1 (p0.R x) (p0.H x) (J4 0 p0 (.exit 0) q0)=s0 x:=by kernel_rfl
def l0:QB:=J5 0 p0 (.exit 0) q0 s0
theorem tl0:QA (C30.Q2 0) 1=[]:=by kernel_rfl
theorem Qe  :QH Try.prog 64 none 0 (C30.Q2 0) l0:=QQ mixed (Q7 Q9 Q6 _) (by trivial) (λ_=>rfl) (λ_=>rfl) (tl0▸Q8.nil) Qd (hg:=Jx.of rfl (u0▸(Zs.cons rfl (by kernel_rfl) Yd Zs.nil)))
def E0:Env:=⟨ty,QJ cl,JB [(0,l0),(1,l1)],none⟩
def m(x:gX):Option fY:=Q1 (M29.m ⟨x.i,x.s⟩) λy=>bif y !=0 then some ([],y) else Q1 (M22.m ⟨x.i,x.s⟩) λy=>bif decide (IntKind.i64.wrap (IntKind.i64.wrap ((↑x.i.length:Int)+(↑x.s.length:Int)) - y)>12) then some ([],3) else bif decide (0<=IntKind.i64.wrap (IntKind.i64.wrap ((↑x.i.length:Int)+(↑x.s.length:Int)) - y)) then bif decide (0<=IntKind.i64.wrap (1*2^min (IntKind.i64.wrap (IntKind.i64.wrap ((↑x.i.length:Int)+(↑x.s.length:Int)) - y)).toNat 64))&&decide (IntKind.i64.wrap (1*2^min (IntKind.i64.wrap (IntKind.i64.wrap ((↑x.i.length:Int)+(↑x.s.length:Int)) - y)).toNat 64)<=IntKind.i64.wrap (1*2^min (IntKind.i64.wrap (IntKind.i64.wrap ((↑x.i.length:Int)+(↑x.s.length:Int)) - y)).toNat 64))&&decide (IntKind.i64.wrap (1*2^min (IntKind.i64.wrap (IntKind.i64.wrap ((↑x.i.length:Int)+(↑x.s.length:Int)) - y)).toNat 64)*(↑48:Int)<=281474976710656)&&decide (IntKind.i64.wrap (1*2^min (IntKind.i64.wrap (IntKind.i64.wrap ((↑x.i.length:Int)+(↑x.s.length:Int)) - y)).toNat 64)<=9223372036854775807) then Q1 (iter s0 ⟨IntKind.i64.wrap (IntKind.i64.wrap ((↑x.i.length:Int)+(↑x.s.length:Int)) - y),0,(IntKind.i64.wrap (1*2^min (IntKind.i64.wrap (IntKind.i64.wrap ((↑x.i.length:Int)+(↑x.s.length:Int)) - y)).toNat 64)).toNat,(IntKind.i64.wrap (1*2^min (IntKind.i64.wrap (IntKind.i64.wrap ((↑x.i.length:Int)+(↑x.s.length:Int)) - y)).toNat 64)).toNat,(↑(IntKind.i64.wrap (1*2^min (IntKind.i64.wrap (IntKind.i64.wrap ((↑x.i.length:Int)+(↑x.s.length:Int)) - y)).toNat 64)).toNat:Int),0,x.i,x.s,List.replicate (IntKind.i64.wrap (1*2^min (IntKind.i64.wrap (IntKind.i64.wrap ((↑x.i.length:Int)+(↑x.s.length:Int)) - y)).toNat 64)).toNat ([],[])⟩) λy=>bif leB (y.out_lo+y.out_len) y.out.length&&true&&true&&true then some (List.take y.out_len (List.drop y.out_lo y.out),0) else none else none else none
theorem QW(x:gX):exec E0 64 C30 0 (QX 0 (g.A x)) (g.H x) (finish 0 ty [.tmp 2,.tmp 3] f)=m x:=by kernel_rfl
theorem tl:QA C30 0=[(0,C30.Q2 0)]:=by kernel_rfl
theorem known:QV Try.prog 30 g f m:=
 QD mixed (Q7 Q9 Q6 _) s30 rfl rfl tl (Q8.cons rfl Qe Q8.nil) (λ_ _=>⟨rfl,rfl⟩) (λ_ _=>⟨rfl,rfl⟩) QW
def con:Con:=XI g f m default
theorem Q5:Qk Try.prog 30 con:=Qa known (λ_=>rfl) rfl
end M30
namespace M32
structure gX where(l:List (Int))
def g:Sg gX:=⟨[.c (.arr (.int .u8))],[],λa b=>⟨a.1⟩,λx=>(x.l,()),λx=>()⟩
abbrev fY:=List (Int)
def f:Ft fY:=⟨none,.c (.arr (.int .u8)),[],λa b=>(a),λy=>y,λy=>()⟩
def cl:List (FuncId×Con):=[]
theorem Q6:QT Try.prog cl:=trivial
def E1:Env:=⟨ty,QJ cl,λ_=>none,none⟩
structure p0X where(l:List (Int))(out_lo out_len:Nat)(i:Int)(xs:List (Int))
def p0:Pt p0X where
 own:=[.reg 3 (.int .u8)]
 t:=⟨[(0,.c (.arr (.int .u8))),(3,.c (.sl 0 0 1)),(4,.c (.it .i64))],[.arr (.int .u8) 0]⟩
 to:=λv=>⟨v.1.1,v.1.2.1.1,v.1.2.1.2,v.1.2.2.1,v.2.1⟩
 fr:=λx=>((x.l,((x.out_lo,x.out_len),(x.i,()))),(x.xs,()))
structure q0X where(out_lo out_len:Nat)(xs:List (Int))
def q0:Pt q0X where
 own:=[]
 t:=⟨[(3,.c (.sl 0 0 1))],[.arr (.int .u8) 0]⟩
 to:=λv=>⟨v.1.1.1,v.1.1.2,v.2.1⟩
 fr:=λx=>(((x.out_lo,x.out_len),()),(x.xs,()))
def s0(x:p0X):Option (p0X⊕q0X):=bif decide (x.i<(↑x.l.length:Int)) then bif inR x.i x.l.length then bif eqN x.out_lo 0&&eqN x.xs.length x.out_len&&Qz (x.out_len+1) 1 then some (Sum.inl ⟨x.l,0,x.out_len+1,IntKind.i64.wrap (x.i+1),x.xs++[Int.tmod (x.l[x.i.toNat]?.getD 0) 3]⟩) else none else none else some (Sum.inr ⟨x.out_lo,x.out_len,x.xs⟩)
theorem Qd(x:p0X):exec E1 20 (C32.Q2 0) 1 (p0.R x) (p0.H x) (J4 0 p0 (.exit 0) q0)=s0 x:=by kernel_rfl
def l0:QB:=J5 0 p0 (.exit 0) q0 s0
theorem tl0:QA (C32.Q2 0) 1=[]:=by kernel_rfl
theorem Qe  :QH Try.prog 20 none 0 (C32.Q2 0) l0:=QQ mixed (Q7 Q9 Q6 _) (by trivial) (λ_=>rfl) (λ_=>rfl) (tl0▸Q8.nil) Qd
def E0:Env:=⟨ty,QJ cl,JB [(0,l0)],none⟩
def m(x:gX):Option fY:=Q1 (iter s0 ⟨x.l,0,0,0,[]⟩) λy=>bif leB (y.out_lo+y.out_len) y.xs.length&&true&&true then some (List.take y.out_len (List.drop y.out_lo y.xs)) else none
theorem QW(x:gX):exec E0 20 C32 0 (QX 0 (g.A x)) (g.H x) (finish 0 ty [.tmp 2] f)=m x:=by kernel_rfl
theorem tl:QA C32 0=[(0,C32.Q2 0)]:=by kernel_rfl
theorem known:QV Try.prog 32 g f m:=
 QD mixed (Q7 Q9 Q6 _) s32 rfl rfl tl (Q8.cons rfl Qe Q8.nil) (λ_ _=>⟨rfl,rfl⟩) (λ_ _=>⟨rfl,rfl⟩) QW
def con:Con:=XI g f m default
theorem Q5:Qk Try.prog 32 con:=Qa known (λ_=>rfl) rfl
end M32
namespace M11
structure gX where(i s:List (Int))
def g:Sg gX:=⟨[.agg [.arr (.int .u8),.arr (.int .u8)]],[],λa b=>⟨a.1.1,a.1.2.1⟩,λx=>((x.i,(x.s,())),()),λx=>()⟩
abbrev fY:=List (Int)×List (Int)
def f:Ft fY:=⟨none,.agg [.arr (.int .u8),.arr (.int .u8)],[],λa b=>(a.1,a.2.1),λy=>(y.1,(y.2,())),λy=>()⟩
def cl:List (FuncId×Con):=[(32,M32.con)]
theorem Q6:QT Try.prog cl:=⟨M32.Q5,trivial⟩
def E0:Env:=⟨ty,QJ cl,λ_=>none,none⟩
def m(x:gX):Option fY:=Q1 (M32.m ⟨x.i⟩) λy=>Q1 (M32.m ⟨x.s⟩) λy_1=>some (y,y_1)
theorem QW(x:gX):exec E0 10 C11 0 (QX 0 (g.A x)) (g.H x) (finish 0 ty [.cell 2 29] f)=m x:=by kernel_rfl
theorem tl:QA C11 0=[]:=by kernel_rfl
theorem known:QV Try.prog 11 g f m:=
 QD mixed (Q7 Q9 Q6 _) s11 rfl rfl tl Q8.nil (λ_ _=>⟨rfl,rfl⟩) (λ_ _=>⟨rfl,rfl⟩) QW
def con:Con:=XI g f m default
theorem Q5:Qk Try.prog 11 con:=Qa known (λ_=>rfl) rfl
end M11
namespace M14
structure gX where(i s:List (Int))
def g:Sg gX:=⟨[.agg [.arr (.int .u8),.arr (.int .u8)]],[],λa b=>⟨a.1.1,a.1.2.1⟩,λx=>((x.i,(x.s,())),()),λx=>()⟩
abbrev fY:=List (Int)
def f:Ft fY:=⟨none,.c (.arr (.int .u8)),[],λa b=>(a),λy=>y,λy=>()⟩
def cl:List (FuncId×Con):=[]
theorem Q6:QT Try.prog cl:=trivial
def E0:Env:=⟨ty,QJ cl,λ_=>none,none⟩
def m(x:gX):Option fY:=bif Qz x.i.length 1 then bif eqN x.i.length x.i.length&&Qz (x.i.length+x.s.length) 1 then bif leB (0+(x.i.length+x.s.length)) (x.i++x.s).length&&true&&true then some (List.take (x.i.length+x.s.length) (List.drop 0 (x.i++x.s))) else none else none else none
theorem QW(x:gX):exec E0 10 C14 0 (QX 0 (g.A x)) (g.H x) (finish 0 ty [.tmp 2] f)=m x:=by kernel_rfl
theorem tl:QA C14 0=[]:=by kernel_rfl
theorem known:QV Try.prog 14 g f m:=
 QD mixed (Q7 Q9 Q6 _) s14 rfl rfl tl Q8.nil (λ_ _=>⟨rfl,rfl⟩) (λ_ _=>⟨rfl,rfl⟩) QW
def con:Con:=XI g f m default
theorem Q5:Qk Try.prog 14 con:=Qa known (λ_=>rfl) rfl
end M14
namespace M15
structure gX where(i s:List (Int))(n:Int)
def g:Sg gX:=⟨[.agg [.arr (.int .u8),.arr (.int .u8)],.c (.it .i64)],[],λa b=>⟨a.1.1,a.1.2.1,a.2.1⟩,λx=>((x.i,(x.s,())),(x.n,())),λx=>()⟩
abbrev fY:=Bool
def f:Ft fY:=⟨none,.c (.bo),[],λa b=>(a),λy=>y,λy=>()⟩
def cl:List (FuncId×Con):=[(14,M14.con)]
theorem Q6:QT Try.prog cl:=⟨M14.Q5,trivial⟩
def E1:Env:=⟨ty,QJ cl,λ_=>none,none⟩
structure p0X where(n:Int)(l:List (Int))(i:Int)
def p0:Pt p0X where
 own:=[]
 t:=⟨[(1,.c (.it .i64)),(5,.c (.arr (.int .u8))),(6,.c (.it .i64))],[]⟩
 to:=λv=>⟨v.1.1,v.1.2.1,v.1.2.2.1⟩
 fr:=λx=>((x.n,(x.l,(x.i,()))),())
abbrev q0X:=Unit
def q0:Pt q0X where
 own:=[]
 t:=⟨[],[]⟩
 to:=λv=>()
 fr:=λx=>((),())
structure z0X where(r:Bool)
def z0:Pt z0X where
 own:=[]
 t:=⟨[(4,.c (.bo))],[]⟩
 to:=λv=>⟨v.1.1⟩
 fr:=λx=>((x.r,()),())
def s0(x:p0X):Option (p0X⊕(q0X⊕z0X)):=bif decide (x.i<(↑x.l.length:Int)) then bif inR x.i x.l.length then bif inR x.i x.l.length||!x.l[x.i.toNat]?.getD 0 !=2 then bif decide (0<=x.i)||!x.l[x.i.toNat]?.getD 0 !=2 then bif bif x.l[x.i.toNat]?.getD 0 !=2 then IntKind.i64.wrap (x.l[x.i.toNat]?.getD 0) !=(x.n.fdiv (2^min x.i.toNat 64)).tmod 2 else false then some (Sum.inr (Sum.inr ⟨false⟩)) else some (Sum.inl ⟨x.n,x.l,IntKind.i64.wrap (x.i+1)⟩) else none else none else none else some (Sum.inr (Sum.inl PUnit.unit))
theorem Qd(x:p0X):exec E1 32 (C15.Q2 0) 1 (p0.R x) (p0.H x) (Jb 0 p0 (.exit 0) q0 .ret z0)=s0 x:=by kernel_rfl
def l0:QB:=Jc 0 p0 (.exit 0) q0 .ret z0 s0
theorem tl0:QA (C15.Q2 0) 1=[]:=by kernel_rfl
theorem Qe  :QH Try.prog 32 none 0 (C15.Q2 0) l0:=Ql mixed (Q7 Q9 Q6 _) (by trivial) (by trivial) (λ_=>rfl) (λ_=>rfl) (λ_=>rfl) (tl0▸Q8.nil) Qd
def E0:Env:=⟨ty,QJ cl,JB [(0,l0)],none⟩
def m(x:gX):Option fY:=Q1 (M14.m ⟨x.i,x.s⟩) λy=>Q1 (iter s0 ⟨x.n,y,0⟩) λs=>Qn s (λy=>some true) λz=>some z.r
theorem QW(x:gX):exec E0 32 C15 0 (QX 0 (g.A x)) (g.H x) (finish 0 ty [.tmp 4] f)=m x:=by kernel_rfl
theorem tl:QA C15 0=[(0,C15.Q2 0)]:=by kernel_rfl
theorem known:QV Try.prog 15 g f m:=
 QD mixed (Q7 Q9 Q6 _) s15 rfl rfl tl (Q8.cons rfl Qe Q8.nil) (λ_ _=>⟨rfl,rfl⟩) (λ_ _=>⟨rfl,rfl⟩) QW
def con:Con:=XI g f m default
theorem Q5:Qk Try.prog 15 con:=Qa known (λ_=>rfl) rfl
end M15
namespace M9
structure gX where(most:Int)(l:List ((List (Int))×List (Int)))
def g:Sg gX:=⟨[.c (.it .i64),.c (.arr (.pair (.sl (.int .u8)) (.sl (.int .u8))))],[],λa b=>⟨a.1,a.2.1⟩,λx=>(x.most,(x.l,())),λx=>()⟩
abbrev fY:=Bool
def f:Ft fY:=⟨none,.c (.bo),[],λa b=>(a),λy=>y,λy=>()⟩
def cl:List (FuncId×Con):=[]
theorem Q6:QT Try.prog cl:=trivial
def E1:Env:=⟨ty,QJ cl,λ_=>none,none⟩
structure p0X where(most:Int)(l:List ((List (Int))×List (Int)))(i:Int)
def p0:Pt p0X where
 own:=[]
 t:=⟨[(0,.c (.it .i64)),(1,.c (.arr (.pair (.sl (.int .u8)) (.sl (.int .u8))))),(5,.c (.it .i64))],[]⟩
 to:=λv=>⟨v.1.1,v.1.2.1,v.1.2.2.1⟩
 fr:=λx=>((x.most,(x.l,(x.i,()))),())
abbrev q0X:=Unit
def q0:Pt q0X where
 own:=[]
 t:=⟨[],[]⟩
 to:=λv=>()
 fr:=λx=>((),())
structure z0X where(r:Bool)
def z0:Pt z0X where
 own:=[]
 t:=⟨[(4,.c (.bo))],[]⟩
 to:=λv=>⟨v.1.1⟩
 fr:=λx=>((x.r,()),())
def s0(x:p0X):Option (p0X⊕(q0X⊕z0X)):=bif decide (x.i<(↑x.l.length:Int)) then bif inR x.i x.l.length then bif inR x.i x.l.length||!!decide ((↑(List.length (x.l[x.i.toNat]?.getD ([],[])).1):Int)>x.most) then bif inR x.i x.l.length||!!bif decide ((↑(List.length (x.l[x.i.toNat]?.getD ([],[])).1):Int)>x.most) then true else decide ((↑(List.length (x.l[x.i.toNat]?.getD ([],[])).2):Int)>x.most) then bif inR x.i x.l.length||!!bif decide ((↑(List.length (x.l[x.i.toNat]?.getD ([],[])).1):Int)>x.most) then true else decide ((↑(List.length (x.l[x.i.toNat]?.getD ([],[])).2):Int)>x.most) then bif bif bif decide ((↑(List.length (x.l[x.i.toNat]?.getD ([],[])).1):Int)>x.most) then true else decide ((↑(List.length (x.l[x.i.toNat]?.getD ([],[])).2):Int)>x.most) then true else decide (IntKind.i64.wrap ((↑(List.length (x.l[x.i.toNat]?.getD ([],[])).1):Int)+(↑(List.length (x.l[x.i.toNat]?.getD ([],[])).2):Int))>x.most) then some (Sum.inr (Sum.inr ⟨false⟩)) else some (Sum.inl ⟨x.most,x.l,IntKind.i64.wrap (x.i+1)⟩) else none else none else none else none else some (Sum.inr (Sum.inl PUnit.unit))
theorem Qd(x:p0X):exec E1 47 (C9.Q2 0) 1 (p0.R x) (p0.H x) (Jb 0 p0 (.exit 0) q0 .ret z0)=s0 x:=by kernel_rfl
def l0:QB:=Jc 0 p0 (.exit 0) q0 .ret z0 s0
theorem tl0:QA (C9.Q2 0) 1=[]:=by kernel_rfl
theorem Qe  :QH Try.prog 47 none 0 (C9.Q2 0) l0:=Ql mixed (Q7 Q9 Q6 _) (by trivial) (by trivial) (λ_=>rfl) (λ_=>rfl) (λ_=>rfl) (tl0▸Q8.nil) Qd
def E0:Env:=⟨ty,QJ cl,JB [(0,l0)],none⟩
def m(x:gX):Option fY:=Q1 (iter s0 ⟨x.most,x.l,0⟩) λs=>Qn s (λy=>some true) λz=>some z.r
theorem QW(x:gX):exec E0 47 C9 0 (QX 0 (g.A x)) (g.H x) (finish 0 ty [.tmp 4] f)=m x:=by kernel_rfl
theorem tl:QA C9 0=[(0,C9.Q2 0)]:=by kernel_rfl
theorem known:QV Try.prog 9 g f m:=
 QD mixed (Q7 Q9 Q6 _) s9 rfl rfl tl (Q8.cons rfl Qe Q8.nil) (λ_ _=>⟨rfl,rfl⟩) (λ_ _=>⟨rfl,rfl⟩) QW
def con:Con:=XI g f m default
theorem Q5:Qk Try.prog 9 con:=Qa known (λ_=>rfl) rfl
end M9
