/-
  What the proof stands on.
-/
import Derived.Test.YtfcbahfdgopgfaaKR9QK9
import Derived.Test.YtfcbahfdgopgfaaKR9QSyJ
import Derived.Test.YtfcbahfdgopgfaaKR9QSyN
import Derived.Test.YtfcbahfdgopgfaaKR9QKc
set_option linter.all false
noncomputable section
namespace Go.Proofs.Ytfcbahfdgopgfaa
open Go.Abs
set_option maxRecDepth 100000
namespace F27
structure gX where
 x:Int
 n:Int
def g:Sg gX where
 vs:=[.c (.it .u64),.c (.it .i64)]
 h:=[]
 to:=fun a b=>⟨a.1,a.2.1⟩
 fa:=fun x=>(x.x,(x.n,()))
 fh:=fun x=>()
abbrev fY:=Bool
def f:Ft fY where
 ord:=none
 sh:=.c (.bo)
 h:=[]
 to:=fun a b=>(a)
 fv:=fun y=>y
 fh:=fun y=>()
def cl:List (FuncId×Con):=[]
theorem Q5:QM Try.prog cl:=trivial
def E0:Env:=⟨ty,QQ cl,fun _=>none,none⟩
def m(x:gX):Option fY:=bif decide (0≤x.n)||!decide (x.n<64) then some (bif decide (x.n<64) then x.x.fdiv (2^min x.n.toNat 64) !=0 else false) else none
theorem QT(x:gX):exec E0 13 C27 0 (QX 0 (g.A x)) (g.H x) (finish 0 ty [.tmp 4] f)=m x:=by kernel_rfl
theorem tl:QI C27 0=[]:=by kernel_rfl
theorem known:QS Try.prog 27 g f m:=
 QC mixed (Q6 QD Q5 _) s27 rfl rfl tl QB.nil (fun _ _=>⟨rfl,rfl⟩) (fun _ _=>⟨rfl,rfl⟩) QT
def con:Con:=X4 g f m default
theorem Q4:QU Try.prog 27 con:=Qd known (fun _=>rfl) rfl
end F27
namespace F28
structure gX where
 x:Int
 i:Int
def g:Sg gX where
 vs:=[.c (.it .u64),.c (.it .i64)]
 h:=[]
 to:=fun a b=>⟨a.1,a.2.1⟩
 fa:=fun x=>(x.x,(x.i,()))
 fh:=fun x=>()
abbrev fY:=Bool
def f:Ft fY where
 ord:=none
 sh:=.c (.bo)
 h:=[]
 to:=fun a b=>(a)
 fv:=fun y=>y
 fh:=fun y=>()
def cl:List (FuncId×Con):=[]
theorem Q5:QM Try.prog cl:=trivial
def E0:Env:=⟨ty,QQ cl,fun _=>none,none⟩
def m(x:gX):Option fY:=bif decide (0≤x.i) then some (IntKind.u64.wrap (↑(BitVec.ofInt 64 (x.x.fdiv (2^min x.i.toNat 64))&&&BitVec.ofInt 64 1).toNat:Int)==1) else none
theorem QT(x:gX):exec E0 10 C28 0 (QX 0 (g.A x)) (g.H x) (finish 0 ty [.tmp 4] f)=m x:=by kernel_rfl
theorem tl:QI C28 0=[]:=by kernel_rfl
theorem known:QS Try.prog 28 g f m:=
 QC mixed (Q6 QD Q5 _) s28 rfl rfl tl QB.nil (fun _ _=>⟨rfl,rfl⟩) (fun _ _=>⟨rfl,rfl⟩) QT
def con:Con:=X4 g f m default
theorem Q4:QU Try.prog 28 con:=Qd known (fun _=>rfl) rfl
end F28
namespace F35
structure gX where
 v:Int
def g:Sg gX where
 vs:=[.c (.it .u8)]
 h:=[]
 to:=fun a b=>⟨a.1⟩
 fa:=fun x=>(x.v,())
 fh:=fun x=>()
abbrev fY:=Bool
def f:Ft fY where
 ord:=none
 sh:=.c (.bo)
 h:=[]
 to:=fun a b=>(a)
 fv:=fun y=>y
 fh:=fun y=>()
def cl:List (FuncId×Con):=[]
theorem Q5:QM Try.prog cl:=trivial
def E0:Env:=⟨ty,QQ cl,fun _=>none,none⟩
def m(x:gX):Option fY:=some (decide (x.v>2))
theorem QT(x:gX):exec E0 5 C35 0 (QX 0 (g.A x)) (g.H x) (finish 0 ty [.tmp 2] f)=m x:=by kernel_rfl
theorem tl:QI C35 0=[]:=by kernel_rfl
theorem known:QS Try.prog 35 g f m:=
 QC mixed (Q6 QD Q5 _) s35 rfl rfl tl QB.nil (fun _ _=>⟨rfl,rfl⟩) (fun _ _=>⟨rfl,rfl⟩) QT
def con:Con:=X4 g f m default
theorem Q4:QU Try.prog 35 con:=Qd known (fun _=>rfl) rfl
end F35
namespace F40
structure gX where
 s:List (Int)
def g:Sg gX where
 vs:=[.c (.arr (.int .u8)),.c (.fn 35)]
 h:=[]
 to:=fun a b=>⟨a.1⟩
 fa:=fun x=>(x.s,((),()))
 fh:=fun x=>()
abbrev fY:=Int
def f:Ft fY where
 ord:=none
 sh:=.c (.it .i64)
 h:=[]
 to:=fun a b=>(a)
 fv:=fun y=>y
 fh:=fun y=>()
def cl:List (FuncId×Con):=[(35,F35.con)]
theorem Q5:QM Try.prog cl:=⟨F35.Q4,trivial⟩
def E1:Env:=⟨ty,QQ cl,fun _=>none,none⟩
structure p0X where
 s:List (Int)
 n:Int
 i:Int
def p0:Pt p0X where
 own:=[]
 t:=⟨[(0,.c (.arr (.int .u8))),(1,.c (.fn 35)),(7,.c (.it .i64)),(8,.c (.it .i64))],[]⟩
 to:=fun v=>⟨v.1.1,v.1.2.2.1,v.1.2.2.2.1⟩
 fr:=fun x=>((x.s,((),(x.n,(x.i,())))),())
abbrev q0X:=Unit
def q0:Pt q0X where
 own:=[]
 t:=⟨[],[]⟩
 to:=fun v=>()
 fr:=fun x=>((),())
structure z0X where
 r:Int
def z0:Pt z0X where
 own:=[]
 t:=⟨[(4,.c (.it .i64))],[]⟩
 to:=fun v=>⟨v.1.1⟩
 fr:=fun x=>((x.r,()),())
def s0(x:p0X):Option (p0X⊕(q0X⊕z0X)):=bif decide (x.i<x.n) then bif inR x.i x.s.length then Q2 (F35.m ⟨x.s[x.i.toNat]?.getD 0⟩) fun y=>bif y then some (Sum.inr (Sum.inr ⟨x.i⟩)) else some (Sum.inl ⟨x.s,x.n,IntKind.i64.wrap (x.i+1)⟩) else none else some (Sum.inr (Sum.inl PUnit.unit))
theorem Qe(x:p0X):exec E1 19 (C40.Q3 0) 1 (p0.R x) (p0.H x) (JH 0 p0 (.exit 0) q0 .ret z0)=s0 x:=by kernel_rfl
def l0:QN:=JE 0 p0 (.exit 0) q0 .ret z0 s0
theorem tl0:QI (C40.Q3 0) 1=[]:=by kernel_rfl
theorem Qf  :QG Try.prog 19 none 0 (C40.Q3 0) l0:=Qg mixed (Q6 QD Q5 _) (by trivial) (by trivial) (fun _=>rfl) (fun _=>rfl) (fun _=>rfl) (tl0▸QB.nil) Qe
def E0:Env:=⟨ty,QQ cl,JL [(0,l0)],none⟩
def m(x:gX):Option fY:=Q2 (iter s0 ⟨x.s,(↑x.s.length:Int),0⟩) fun s=>JK s (fun y=>some (-1)) fun z=>some z.r
theorem QT(x:gX):exec E0 19 C40 0 (QX 0 (g.A x)) (g.H x) (finish 0 ty [.tmp 4] f)=m x:=by kernel_rfl
theorem tl:QI C40 0=[(0,C40.Q3 0)]:=by kernel_rfl
theorem known:QS Try.prog 40 g f m:=
 QC mixed (Q6 QD Q5 _) s40 rfl rfl tl (QB.cons rfl Qf QB.nil) (fun _ _=>⟨rfl,rfl⟩) (fun _ _=>⟨rfl,rfl⟩) QT
def con:Con:=X4 g f m default
theorem Q4:QU Try.prog 40 con:=Qd known (fun _=>rfl) rfl
end F40
namespace F34
structure gX where
 s:List (Int)
def g:Sg gX where
 vs:=[.c (.arr (.int .u8)),.c (.fn 35)]
 h:=[]
 to:=fun a b=>⟨a.1⟩
 fa:=fun x=>(x.s,((),()))
 fh:=fun x=>()
abbrev fY:=Bool
def f:Ft fY where
 ord:=none
 sh:=.c (.bo)
 h:=[]
 to:=fun a b=>(a)
 fv:=fun y=>y
 fh:=fun y=>()
def cl:List (FuncId×Con):=[(40,F40.con)]
theorem Q5:QM Try.prog cl:=⟨F40.Q4,trivial⟩
def E0:Env:=⟨ty,QQ cl,fun _=>none,none⟩
def m(x:gX):Option fY:=Q2 (F40.m ⟨x.s⟩) fun y=>some (decide (y≥0))
theorem QT(x:gX):exec E0 9 C34 0 (QX 0 (g.A x)) (g.H x) (finish 0 ty [.tmp 4] f)=m x:=by kernel_rfl
theorem tl:QI C34 0=[]:=by kernel_rfl
theorem known:QS Try.prog 34 g f m:=
 QC mixed (Q6 QD Q5 _) s34 rfl rfl tl QB.nil (fun _ _=>⟨rfl,rfl⟩) (fun _ _=>⟨rfl,rfl⟩) QT
def con:Con:=X4 g f m default
theorem Q4:QU Try.prog 34 con:=Qd known (fun _=>rfl) rfl
end F34
namespace F37
structure gX where
 x:Int
 outs:Int
 cols:List (Int)
def g:Sg gX where
 vs:=[.c (.it .u64),.c (.ptr 0 0)]
 h:=[.st [.it .i64,.arr (.int .u64)] 1 0]
 to:=fun a b=>⟨a.1,b.1.1,b.1.2.1⟩
 fa:=fun x=>(x.x,((),()))
 fh:=fun x=>((x.outs,(x.cols,())),())
abbrev fY:=Bool×Int×List (Int)
def f:Ft fY where
 ord:=none
 sh:=.c (.bo)
 h:=[.st [.it .i64,.arr (.int .u64)] 1 0]
 to:=fun a b=>(a,b.1.1,b.1.2.1)
 fv:=fun y=>y.1
 fh:=fun y=>((y.2.1,(y.2.2,())),())
def cl:List (FuncId×Con):=[(27,F27.con)]
theorem Q5:QM Try.prog cl:=⟨F27.Q4,trivial⟩
def E0:Env:=⟨ty,QQ cl,fun _=>none,none⟩
def m(x:gX):Option fY:=Q2 (F27.m ⟨x.x,x.outs⟩) fun y=>some (y,x.outs,x.cols)
theorem QT(x:gX):exec E0 8 C37 0 (QX 0 (g.A x)) (g.H x) (finish 1 ty [.tmp 3] f)=m x:=by kernel_rfl
theorem tl:QI C37 0=[]:=by kernel_rfl
theorem known:QS Try.prog 37 g f m:=
 QC mixed (Q6 QD Q5 _) s37 rfl rfl tl QB.nil (fun _ _=>⟨rfl,rfl⟩) (fun _ _=>⟨rfl,rfl⟩) QT
theorem hh{x:gX}{y:fY}(h:m x=some y):f.H y=g.H x:=by
 unfold m at h
 obtain⟨r,h1,h2⟩:=Js h
 cases h2;rfl
def con:Con:=conR g [.arg 1 0] f m default
theorem Q4:QU Try.prog 37 con:=V7 known (fun _=>rfl) (fun _ _ h=>by exact hh h)
end F37
namespace F41
structure gX where
 s:List (Int)
 outs:Int
 cols:List (Int)
def g:Sg gX where
 vs:=[.c (.arr (.int .u64)),.c (.clo 37 [⟨0,0,0⟩])]
 h:=[.st [.it .i64,.arr (.int .u64)] 1 0]
 to:=fun a b=>⟨a.1,b.1.1,b.1.2.1⟩
 fa:=fun x=>(x.s,((),()))
 fh:=fun x=>((x.outs,(x.cols,())),())
abbrev fY:=Int×Int×List (Int)
def f:Ft fY where
 ord:=none
 sh:=.c (.it .i64)
 h:=[.st [.it .i64,.arr (.int .u64)] 1 0]
 to:=fun a b=>(a,b.1.1,b.1.2.1)
 fv:=fun y=>y.1
 fh:=fun y=>((y.2.1,(y.2.2,())),())
def cl:List (FuncId×Con):=[(37,F37.con)]
theorem Q5:QM Try.prog cl:=⟨F37.Q4,trivial⟩
def E1:Env:=⟨ty,QQ cl,fun _=>none,none⟩
structure p0X where
 s:List (Int)
 n:Int
 i:Int
 outs:Int
 cols:List (Int)
def p0:Pt p0X where
 own:=[]
 t:=⟨[(0,.c (.arr (.int .u64))),(1,.c (.clo 37 [⟨0,0,0⟩])),(7,.c (.it .i64)),(8,.c (.it .i64))],[.st [.it .i64,.arr (.int .u64)] 1 0]⟩
 to:=fun v=>⟨v.1.1,v.1.2.2.1,v.1.2.2.2.1,v.2.1.1,v.2.1.2.1⟩
 fr:=fun x=>((x.s,((),(x.n,(x.i,())))),((x.outs,(x.cols,())),()))
structure q0X where
 outs:Int
 cols:List (Int)
def q0:Pt q0X where
 own:=[]
 t:=⟨[],[.st [.it .i64,.arr (.int .u64)] 1 0]⟩
 to:=fun v=>⟨v.2.1.1,v.2.1.2.1⟩
 fr:=fun x=>((),((x.outs,(x.cols,())),()))
structure z0X where
 r:Int
 outs:Int
 cols:List (Int)
def z0:Pt z0X where
 own:=[]
 t:=⟨[(4,.c (.it .i64))],[.st [.it .i64,.arr (.int .u64)] 1 0]⟩
 to:=fun v=>⟨v.1.1,v.2.1.1,v.2.1.2.1⟩
 fr:=fun x=>((x.r,()),((x.outs,(x.cols,())),()))
def s0(x:p0X):Option (p0X⊕(q0X⊕z0X)):=bif decide (x.i<x.n) then bif inR x.i x.s.length then Q2 (F37.m ⟨x.s[x.i.toNat]?.getD 0,x.outs,x.cols⟩) fun y=>bif y.1 then some (Sum.inr (Sum.inr ⟨x.i,x.outs,x.cols⟩)) else some (Sum.inl ⟨x.s,x.n,IntKind.i64.wrap (x.i+1),x.outs,x.cols⟩) else none else some (Sum.inr (Sum.inl ⟨x.outs,x.cols⟩))
theorem Qe(x:p0X):exec E1 19 (C41.Q3 0) 1 (p0.R x) (p0.H x) (JH 1 p0 (.exit 0) q0 .ret z0)=s0 x:=by kernel_rfl
def l0:QN:=JE 1 p0 (.exit 0) q0 .ret z0 s0
theorem tl0:QI (C41.Q3 0) 1=[]:=by kernel_rfl
theorem Qf  :QG Try.prog 19 none 1 (C41.Q3 0) l0:=Qg mixed (Q6 QD Q5 _) (by trivial) (by trivial) (fun _=>rfl) (fun _=>rfl) (fun _=>rfl) (tl0▸QB.nil) Qe
def E0:Env:=⟨ty,QQ cl,JL [(0,l0)],none⟩
def m(x:gX):Option fY:=Q2 (iter s0 ⟨x.s,(↑x.s.length:Int),0,x.outs,x.cols⟩) fun s=>JK s (fun y=>some (-1,y.outs,y.cols)) fun z=>some (z.r,z.outs,z.cols)
theorem QT(x:gX):exec E0 19 C41 0 (QX 0 (g.A x)) (g.H x) (finish 1 ty [.tmp 4] f)=m x:=by kernel_rfl
theorem tl:QI C41 0=[(0,C41.Q3 0)]:=by kernel_rfl
theorem known:QS Try.prog 41 g f m:=
 QC mixed (Q6 QD Q5 _) s41 rfl rfl tl (QB.cons rfl Qf QB.nil) (fun _ _=>⟨rfl,rfl⟩) (fun _ _=>⟨rfl,rfl⟩) QT
theorem hh{x:gX}{y:fY}(h:m x=some y):f.H y=g.H x:=by
 unfold m at h
 obtain⟨r,h1,h2⟩:=Js h
 have h3:=UK (fun z=>z.outs=x.outs∧z.cols=x.cols) (fun r=>match r with|.inl y=>y.outs=x.outs∧y.cols=x.cols|.inr z=>z.outs=x.outs∧z.cols=x.cols) (fun z r hz hr=>by
  unfold s0 at hr
  rcases cond_some hr with ⟨_,hr⟩|⟨_,hr⟩
  ·rcases cond_some hr with ⟨_,hr⟩|⟨_,hr⟩
   ·obtain⟨b,_,hr⟩:=Js hr
    rcases cond_some hr with ⟨_,hr⟩|⟨_,hr⟩<;>(cases hr;exact hz)
   ·cases hr
  ·cases hr;exact hz) ⟨rfl,rfl⟩ h1
 rcases sumC_some h2 with ⟨z,rfl,h4⟩|⟨z,rfl,h4⟩<;>(cases h4;obtain⟨e1,e2⟩:=h3;simp only[Ft.H,Sg.H,f,g,e1,e2])
def con:Con:=conR g [.arg 1 0] f m default
theorem Q4:QU Try.prog 41 con:=V7 known (fun _=>rfl) (fun _ _ h=>by exact hh h)
end F41
namespace F36
structure gX where
 s:List (Int)
 outs:Int
 cols:List (Int)
def g:Sg gX where
 vs:=[.c (.arr (.int .u64)),.c (.clo 37 [⟨0,0,0⟩])]
 h:=[.st [.it .i64,.arr (.int .u64)] 1 0]
 to:=fun a b=>⟨a.1,b.1.1,b.1.2.1⟩
 fa:=fun x=>(x.s,((),()))
 fh:=fun x=>((x.outs,(x.cols,())),())
abbrev fY:=Bool×Int×List (Int)
def f:Ft fY where
 ord:=none
 sh:=.c (.bo)
 h:=[.st [.it .i64,.arr (.int .u64)] 1 0]
 to:=fun a b=>(a,b.1.1,b.1.2.1)
 fv:=fun y=>y.1
 fh:=fun y=>((y.2.1,(y.2.2,())),())
def cl:List (FuncId×Con):=[(41,F41.con)]
theorem Q5:QM Try.prog cl:=⟨F41.Q4,trivial⟩
def E0:Env:=⟨ty,QQ cl,fun _=>none,none⟩
def m(x:gX):Option fY:=Q2 (F41.m ⟨x.s,x.outs,x.cols⟩) fun y=>some (decide (y.1≥0),x.outs,x.cols)
theorem QT(x:gX):exec E0 9 C36 0 (QX 0 (g.A x)) (g.H x) (finish 1 ty [.tmp 4] f)=m x:=by kernel_rfl
theorem tl:QI C36 0=[]:=by kernel_rfl
theorem known:QS Try.prog 36 g f m:=
 QC mixed (Q6 QD Q5 _) s36 rfl rfl tl QB.nil (fun _ _=>⟨rfl,rfl⟩) (fun _ _=>⟨rfl,rfl⟩) QT
theorem hh{x:gX}{y:fY}(h:m x=some y):f.H y=g.H x:=by
 unfold m at h
 obtain⟨r,h1,h2⟩:=Js h
 cases h2;rfl
def con:Con:=conR g [.arg 1 0] f m default
theorem Q4:QU Try.prog 36 con:=V7 known (fun _=>rfl) (fun _ _ h=>by exact hh h)
end F36
namespace F26
structure gX where
 outs:Int
 cols:List (Int)
def g:Sg gX where
 vs:=[.agg [.it .i64,.arr (.int .u64)]]
 h:=[]
 to:=fun a b=>⟨a.1.1,a.1.2.1⟩
 fa:=fun x=>((x.outs,(x.cols,())),())
 fh:=fun x=>()
abbrev fY:=Int
def f:Ft fY where
 ord:=none
 sh:=.c (.it .i64)
 h:=[]
 to:=fun a b=>(a)
 fv:=fun y=>y
 fh:=fun y=>()
def cl:List (FuncId×Con):=[(36,F36.con)]
theorem Q5:QM Try.prog cl:=⟨F36.Q4,trivial⟩
def E0:Env:=⟨ty,QQ cl,fun _=>none,none⟩
def m(x:gX):Option fY:=bif decide (x.outs<0) then some 1 else bif bif decide (x.outs>64) then true else decide ((↑x.cols.length:Int)>64) then some 3 else Q2 (F36.m ⟨x.cols,x.outs,x.cols⟩) fun y=>bif y.1 then some 1 else some 0
theorem QT(x:gX):exec E0 22 C26 0 (QX 0 (g.A x)) (g.H x) (finish 0 ty [.tmp 2] f)=m x:=by kernel_rfl
theorem tl:QI C26 0=[]:=by kernel_rfl
theorem known:QS Try.prog 26 g f m:=
 QC mixed (Q6 QD Q5 _) s26 rfl rfl tl QB.nil (fun _ _=>⟨rfl,rfl⟩) (fun _ _=>⟨rfl,rfl⟩) QT
def con:Con:=X4 g f m default
theorem Q4:QU Try.prog 26 con:=Qd known (fun _=>rfl) rfl
end F26
end Go.Proofs.Ytfcbahfdgopgfaa
namespace Go.Proofs.Ytfcbahfdgopgfaa
open Go.Abs
set_option maxRecDepth 100000
namespace F23
structure gX where
 outs:Int
 cols:List (Int)
 mask:Int
 l:List (List (Int))
def g:Sg gX where
 vs:=[.agg [.it .i64,.arr (.int .u64)],.c (.it .u64),.c (.arr (.sl (.int .u8)))]
 h:=[]
 to:=fun a b=>⟨a.1.1,a.1.2.1,a.2.1,a.2.2.1⟩
 fa:=fun x=>((x.outs,(x.cols,())),(x.mask,(x.l,())))
 fh:=fun x=>()
abbrev fY:=Int
def f:Ft fY where
 ord:=none
 sh:=.c (.it .i64)
 h:=[]
 to:=fun a b=>(a)
 fv:=fun y=>y
 fh:=fun y=>()
def cl:List (FuncId×Con):=[(26,F26.con),(34,F34.con),(27,F27.con)]
theorem Q5:QM Try.prog cl:=⟨F26.Q4,F34.Q4,F27.Q4,trivial⟩
def E2:Env:=⟨ty,QQ cl,fun _=>none,none⟩
structure p1X where
 mask:Int
 w:List (List (Int))
 n:Int
 i:Int
 outs:Int
 cols:List (Int)
def p1:Pt p1X where
 own:=[]
 t:=⟨[(1,.c (.it .u64)),(3,.c (.ptr 0 0)),(30,.c (.arr (.sl (.int .u8)))),(31,.c (.it .i64)),(32,.c (.it .i64))],[.st [.it .i64,.arr (.int .u64)] 1 0]⟩
 to:=fun v=>⟨v.1.1,v.1.2.2.1,v.1.2.2.2.1,v.1.2.2.2.2.1,v.2.1.1,v.2.1.2.1⟩
 fr:=fun x=>((x.mask,((),(x.w,(x.n,(x.i,()))))),((x.outs,(x.cols,())),()))
structure q1X where
 mask:Int
 outs:Int
 cols:List (Int)
def q1:Pt q1X where
 own:=[]
 t:=⟨[(1,.c (.it .u64)),(3,.c (.ptr 0 0))],[.st [.it .i64,.arr (.int .u64)] 1 0]⟩
 to:=fun v=>⟨v.1.1,v.2.1.1,v.2.1.2.1⟩
 fr:=fun x=>((x.mask,((),())),((x.outs,(x.cols,())),()))
structure z1X where
 r:Int
def z1:Pt z1X where
 own:=[]
 t:=⟨[(6,.c (.it .i64))],[]⟩
 to:=fun v=>⟨v.1.1⟩
 fr:=fun x=>((x.r,()),())
def s1(x:p1X):Option (p1X⊕(q1X⊕z1X)):=bif decide (x.i<x.n) then bif inR x.i x.w.length then Q2 (F34.m ⟨x.w[x.i.toNat]?.getD []⟩) fun y=>bif y then some (Sum.inr (Sum.inr ⟨1⟩)) else some (Sum.inl ⟨x.mask,x.w,x.n,IntKind.i64.wrap (x.i+1),x.outs,x.cols⟩) else none else some (Sum.inr (Sum.inl ⟨x.mask,x.outs,x.cols⟩))
theorem Jz(x:p1X):exec E2 44 (C23.Q3 1) 2 (p1.R x) (p1.H x) (JH 0 p1 (.exit 2) q1 .ret z1)=s1 x:=by kernel_rfl
def l1:QN:=JE 0 p1 (.exit 2) q1 .ret z1 s1
theorem tl1:QI (C23.Q3 1) 2=[]:=by kernel_rfl
theorem X1  :QG Try.prog 44 none 0 (C23.Q3 1) l1:=Qg mixed (Q6 QD Q5 _) (by trivial) (by trivial) (fun _=>rfl) (fun _=>rfl) (fun _=>rfl) (tl1▸QB.nil) Jz
def E1:Env:=⟨ty,QQ cl,JL [(1,l1)],none⟩
structure p0X where
 mask:Int
 l:List (List (Int))
 w:List (List (Int))
 n:Int
 i:Int
 outs:Int
 cols:List (Int)
def p0:Pt p0X where
 own:=[]
 t:=⟨[(1,.c (.it .u64)),(2,.c (.arr (.sl (.int .u8)))),(3,.c (.ptr 0 0)),(17,.c (.arr (.sl (.int .u8)))),(18,.c (.it .i64)),(19,.c (.it .i64))],[.st [.it .i64,.arr (.int .u64)] 1 0]⟩
 to:=fun v=>⟨v.1.1,v.1.2.1,v.1.2.2.2.1,v.1.2.2.2.2.1,v.1.2.2.2.2.2.1,v.2.1.1,v.2.1.2.1⟩
 fr:=fun x=>((x.mask,(x.l,((),(x.w,(x.n,(x.i,())))))),((x.outs,(x.cols,())),()))
structure q0X where
 mask:Int
 l:List (List (Int))
 outs:Int
 cols:List (Int)
def q0:Pt q0X where
 own:=[]
 t:=⟨[(1,.c (.it .u64)),(2,.c (.arr (.sl (.int .u8)))),(3,.c (.ptr 0 0))],[.st [.it .i64,.arr (.int .u64)] 1 0]⟩
 to:=fun v=>⟨v.1.1,v.1.2.1,v.2.1.1,v.2.1.2.1⟩
 fr:=fun x=>((x.mask,(x.l,((),()))),((x.outs,(x.cols,())),()))
structure z0X where
 r:Int
def z0:Pt z0X where
 own:=[]
 t:=⟨[(6,.c (.it .i64))],[]⟩
 to:=fun v=>⟨v.1.1⟩
 fr:=fun x=>((x.r,()),())
def s0(x:p0X):Option (p0X⊕(q0X⊕z0X)):=bif decide (x.i<x.n) then bif inR x.i x.w.length then bif (↑(List.length (x.w[x.i.toNat]?.getD [])):Int) !=(↑x.cols.length:Int) then some (Sum.inr (Sum.inr ⟨8⟩)) else some (Sum.inl ⟨x.mask,x.l,x.w,x.n,IntKind.i64.wrap (x.i+1),x.outs,x.cols⟩) else none else some (Sum.inr (Sum.inl ⟨x.mask,x.l,x.outs,x.cols⟩))
theorem Qe(x:p0X):exec E1 44 (C23.Q3 0) 1 (p0.R x) (p0.H x) (JH 0 p0 (.exit 0) q0 .ret z0)=s0 x:=by kernel_rfl
def l0:QN:=JE 0 p0 (.exit 0) q0 .ret z0 s0
theorem tl0:QI (C23.Q3 0) 1=[]:=by kernel_rfl
theorem Qf  :QG Try.prog 44 none 0 (C23.Q3 0) l0:=Qg mixed (Q6 QD Q5 _) (by trivial) (by trivial) (fun _=>rfl) (fun _=>rfl) (fun _=>rfl) (tl0▸QB.nil) Qe
def E0:Env:=⟨ty,QQ cl,JL [(0,l0),(1,l1)],none⟩
def m(x:gX):Option fY:=Q2 (F26.m ⟨x.outs,x.cols⟩) fun y=>bif y !=0 then some y else Q2 (iter s0 ⟨x.mask,x.l,x.l,(↑x.l.length:Int),0,x.outs,x.cols⟩) fun s=>JK s (fun y=>Q2 (iter s1 ⟨y.mask,y.l,(↑y.l.length:Int),0,y.outs,y.cols⟩) fun s=>JK s (fun y=>Q2 (F27.m ⟨y.mask,(↑y.cols.length:Int)⟩) fun y=>bif y then some 1 else some 0) fun z=>some z.r) fun z=>some z.r
theorem QT(x:gX):exec E0 44 C23 0 (QX 0 (g.A x)) (g.H x) (finish 0 ty [.tmp 6] f)=m x:=by kernel_rfl
theorem tl:QI C23 0=[(0,C23.Q3 0),(1,C23.Q3 1)]:=by kernel_rfl
theorem known:QS Try.prog 23 g f m:=
 QC mixed (Q6 QD Q5 _) s23 rfl rfl tl (QB.cons rfl Qf (QB.cons rfl X1 QB.nil)) (fun _ _=>⟨rfl,rfl⟩) (fun _ _=>⟨rfl,rfl⟩) QT
def con:Con:=X4 g f m default
theorem Q4:QU Try.prog 23 con:=Qd known (fun _=>rfl) rfl
end F23
namespace F24
structure gX where
 outs:Int
 cols:List (Int)
 s:List (Int)
 mask:Int
def g:Sg gX where
 vs:=[.agg [.it .i64,.arr (.int .u64)],.c (.arr (.int .u8)),.c (.it .u64)]
 h:=[]
 to:=fun a b=>⟨a.1.1,a.1.2.1,a.2.1,a.2.2.1⟩
 fa:=fun x=>((x.outs,(x.cols,())),(x.s,(x.mask,())))
 fh:=fun x=>()
abbrev fY:=List (Int)
def f:Ft fY where
 ord:=none
 sh:=.c (.arr (.int .u8))
 h:=[]
 to:=fun a b=>(a)
 fv:=fun y=>y
 fh:=fun y=>()
def cl:List (FuncId×Con):=[(28,F28.con)]
theorem Q5:QM Try.prog cl:=⟨F28.Q4,trivial⟩
def E2:Env:=⟨ty,QQ cl,fun _=>none,none⟩
structure p1X where
 mask:Int
 out_lo:Nat
 out_len:Nat
 out_cap:Nat
 s:List (Int)
 n:Int
 i:Int
 c:Int
 v:Int
 m:Int
 o:Int
 outs:Int
 cols:List (Int)
 xs:List (Int)
def p1:Pt p1X where
 own:=[]
 t:=⟨[(2,.c (.it .u64)),(3,.c (.ptr 0 0)),(7,.c (.slc 1 0 1)),(14,.c (.arr (.int .u8))),(15,.c (.it .i64)),(16,.c (.it .i64)),(8,.c (.it .i64)),(9,.c (.it .u8)),(25,.c (.it .i64)),(26,.c (.it .i64))],[.st [.it .i64,.arr (.int .u64)] 1 0,.arr (.int .u8) 0]⟩
 to:=fun v=>⟨v.1.1,v.1.2.2.1.1,v.1.2.2.1.2.1,v.1.2.2.1.2.2,v.1.2.2.2.1,v.1.2.2.2.2.1,v.1.2.2.2.2.2.1,v.1.2.2.2.2.2.2.1,v.1.2.2.2.2.2.2.2.1,v.1.2.2.2.2.2.2.2.2.1,v.1.2.2.2.2.2.2.2.2.2.1,v.2.1.1,v.2.1.2.1,v.2.2.1⟩
 fr:=fun x=>((x.mask,((),((x.out_lo,x.out_len,x.out_cap),(x.s,(x.n,(x.i,(x.c,(x.v,(x.m,(x.o,())))))))))),((x.outs,(x.cols,())),(x.xs,())))
structure q1X where
 mask:Int
 out_lo:Nat
 out_len:Nat
 out_cap:Nat
 s:List (Int)
 n:Int
 i:Int
 outs:Int
 cols:List (Int)
 xs:List (Int)
def q1:Pt q1X where
 own:=[]
 t:=⟨[(2,.c (.it .u64)),(3,.c (.ptr 0 0)),(7,.c (.slc 1 0 1)),(14,.c (.arr (.int .u8))),(15,.c (.it .i64)),(16,.c (.it .i64))],[.st [.it .i64,.arr (.int .u64)] 1 0,.arr (.int .u8) 0]⟩
 to:=fun v=>⟨v.1.1,v.1.2.2.1.1,v.1.2.2.1.2.1,v.1.2.2.1.2.2,v.1.2.2.2.1,v.1.2.2.2.2.1,v.1.2.2.2.2.2.1,v.2.1.1,v.2.1.2.1,v.2.2.1⟩
 fr:=fun x=>((x.mask,((),((x.out_lo,x.out_len,x.out_cap),(x.s,(x.n,(x.i,())))))),((x.outs,(x.cols,())),(x.xs,())))
def s1(x:p1X):Option (p1X⊕q1X):=bif decide (x.o<x.m) then bif inR x.c x.cols.length then Q2 (F28.m ⟨x.cols[x.c.toNat]?.getD 0,x.o⟩) fun y=>bif inR x.o x.out_len||!!!y then bif decide (x.out_lo+x.o.toNat<x.xs.length)||!!!y then bif bif !y then true else x.xs[x.out_lo+x.o.toNat]?.getD 0==2 then some (Sum.inl ⟨x.mask,x.out_lo,x.out_len,x.out_cap,x.s,x.n,x.i,x.c,x.v,x.m,IntKind.i64.wrap (x.o+1),x.outs,x.cols,x.xs⟩) else bif x.v==2 then bif inR x.o x.out_len then bif decide (x.out_lo+x.o.toNat<x.xs.length) then some (Sum.inl ⟨x.mask,x.out_lo,x.out_len,x.out_cap,x.s,x.n,x.i,x.c,x.v,x.m,IntKind.i64.wrap (x.o+1),x.outs,x.cols,x.xs.set (x.out_lo+x.o.toNat) 2⟩) else none else none else bif inR x.o x.out_len then bif decide (x.out_lo+x.o.toNat<x.xs.length) then bif inR x.o x.out_len then bif decide (x.out_lo+x.o.toNat<x.xs.length) then some (Sum.inl ⟨x.mask,x.out_lo,x.out_len,x.out_cap,x.s,x.n,x.i,x.c,x.v,x.m,IntKind.i64.wrap (x.o+1),x.outs,x.cols,x.xs.set (x.out_lo+x.o.toNat) (IntKind.u8.wrap (↑(BitVec.ofInt 8 (x.xs[x.out_lo+x.o.toNat]?.getD 0)^^^BitVec.ofInt 8 x.v).toNat:Int))⟩) else none else none else none else none else none else none else none else some (Sum.inr ⟨x.mask,x.out_lo,x.out_len,x.out_cap,x.s,x.n,x.i,x.outs,x.cols,x.xs⟩)
theorem Jz(x:p1X):exec E2 61 (C24.Q3 1) 2 (p1.R x) (p1.H x) (Qt 0 p1 (.exit 2) q1)=s1 x:=by kernel_rfl
def l1:QN:=Qu 0 p1 (.exit 2) q1 s1
theorem tl1:QI (C24.Q3 1) 2=[]:=by kernel_rfl
theorem X1  :QG Try.prog 61 none 0 (C24.Q3 1) l1:=QO mixed (Q6 QD Q5 _) (by trivial) (fun _=>rfl) (fun _=>rfl) (tl1▸QB.nil) Jz
def E1:Env:=⟨ty,QQ cl,JL [(1,l1)],none⟩
structure p0X where
 mask:Int
 out_lo:Nat
 out_len:Nat
 out_cap:Nat
 s:List (Int)
 n:Int
 i:Int
 outs:Int
 cols:List (Int)
 xs:List (Int)
def p0:Pt p0X where
 own:=[]
 t:=⟨[(2,.c (.it .u64)),(3,.c (.ptr 0 0)),(7,.c (.slc 1 0 1)),(14,.c (.arr (.int .u8))),(15,.c (.it .i64)),(16,.c (.it .i64))],[.st [.it .i64,.arr (.int .u64)] 1 0,.arr (.int .u8) 0]⟩
 to:=fun v=>⟨v.1.1,v.1.2.2.1.1,v.1.2.2.1.2.1,v.1.2.2.1.2.2,v.1.2.2.2.1,v.1.2.2.2.2.1,v.1.2.2.2.2.2.1,v.2.1.1,v.2.1.2.1,v.2.2.1⟩
 fr:=fun x=>((x.mask,((),((x.out_lo,x.out_len,x.out_cap),(x.s,(x.n,(x.i,())))))),((x.outs,(x.cols,())),(x.xs,())))
structure q0X where
 out_lo:Nat
 out_len:Nat
 out_cap:Nat
 outs:Int
 cols:List (Int)
 xs:List (Int)
def q0:Pt q0X where
 own:=[]
 t:=⟨[(7,.c (.slc 1 0 1))],[.st [.it .i64,.arr (.int .u64)] 1 0,.arr (.int .u8) 0]⟩
 to:=fun v=>⟨v.1.1.1,v.1.1.2.1,v.1.1.2.2,v.2.1.1,v.2.1.2.1,v.2.2.1⟩
 fr:=fun x=>(((x.out_lo,x.out_len,x.out_cap),()),((x.outs,(x.cols,())),(x.xs,())))
def s0(x:p0X):Option (p0X⊕q0X):=bif decide (x.i<x.n) then bif inR x.i x.s.length then Q2 (F28.m ⟨x.mask,x.i⟩) fun y=>bif y then some (Sum.inl ⟨x.mask,x.out_lo,x.out_len,x.out_cap,x.s,x.n,IntKind.i64.wrap (x.i+1),x.outs,x.cols,x.xs⟩) else Q2 (iter s1 ⟨x.mask,x.out_lo,x.out_len,x.out_cap,x.s,x.n,x.i,x.i,x.s[x.i.toNat]?.getD 0,(↑x.out_len:Int),0,x.outs,x.cols,x.xs⟩) fun y=>some (Sum.inl ⟨y.mask,y.out_lo,y.out_len,y.out_cap,y.s,y.n,IntKind.i64.wrap (y.i+1),y.outs,y.cols,y.xs⟩) else none else some (Sum.inr ⟨x.out_lo,x.out_len,x.out_cap,x.outs,x.cols,x.xs⟩)
theorem Qe(x:p0X):exec E1 61 (C24.Q3 0) 1 (p0.R x) (p0.H x) (Qt 0 p0 (.exit 0) q0)=s0 x:=by kernel_rfl
def l0:QN:=Qu 0 p0 (.exit 0) q0 s0
theorem tl0:QI (C24.Q3 0) 1=[(1,C24.Q3 1)]:=by kernel_rfl
theorem Qf  :QG Try.prog 61 none 0 (C24.Q3 0) l0:=QO mixed (Q6 QD Q5 _) (by trivial) (fun _=>rfl) (fun _=>rfl) (tl0▸(QB.cons rfl X1 QB.nil)) Qe
def E0:Env:=⟨ty,QQ cl,JL [(0,l0),(1,l1)],none⟩
def m(x:gX):Option fY:=bif decide (0≤x.outs)&&decide (x.outs≤x.outs)&&decide (x.outs*(↑1:Int)≤281474976710656)&&decide (x.outs≤9223372036854775807) then Q2 (iter s0 ⟨x.mask,0,x.outs.toNat,x.outs.toNat,x.s,(↑x.s.length:Int),0,x.outs,x.cols,List.replicate x.outs.toNat (0:Int)⟩) fun y=>bif leB (y.out_lo+y.out_len) y.xs.length&&true&&true then some (List.take y.out_len (List.drop y.out_lo y.xs)) else none else none
theorem QT(x:gX):exec E0 61 C24 0 (QX 0 (g.A x)) (g.H x) (finish 0 ty [.tmp 6] f)=m x:=by kernel_rfl
theorem tl:QI C24 0=[(0,C24.Q3 0)]:=by kernel_rfl
theorem known:QS Try.prog 24 g f m:=
 QC mixed (Q6 QD Q5 _) s24 rfl rfl tl (QB.cons rfl Qf QB.nil) (fun _ _=>⟨rfl,rfl⟩) (fun _ _=>⟨rfl,rfl⟩) QT
def con:Con:=X4 g f m default
theorem Q4:QU Try.prog 24 con:=Qd known (fun _=>rfl) rfl
end F24
namespace F12
structure gX where
 outs:Int
 cols:List (Int)
 s:List (Int)
 mask:Int
def g:Sg gX where
 vs:=[.agg [.it .i64,.arr (.int .u64)],.c (.arr (.int .u8)),.c (.it .u64)]
 h:=[]
 to:=fun a b=>⟨a.1.1,a.1.2.1,a.2.1,a.2.2.1⟩
 fa:=fun x=>((x.outs,(x.cols,())),(x.s,(x.mask,())))
 fh:=fun x=>()
abbrev fY:=List (Int)×Int
def f:Ft fY where
 ord:=none
 sh:=.tup [.inl (.arr (.int .u8)),.inl (.it .i64)]
 h:=[]
 to:=fun a b=>(a.1,a.2.1)
 fv:=fun y=>(y.1,(y.2,()))
 fh:=fun y=>()
def cl:List (FuncId×Con):=[(23,F23.con),(24,F24.con)]
theorem Q5:QM Try.prog cl:=⟨F23.Q4,F24.Q4,trivial⟩
def E0:Env:=⟨ty,QQ cl,fun _=>none,none⟩
def m(x:gX):Option fY:=Q2 (F23.m ⟨x.outs,x.cols,x.mask,[x.s]⟩) fun y=>bif y !=0 then some ([],y) else Q2 (F24.m ⟨x.outs,x.cols,x.s,x.mask⟩) fun y=>some (y,0)
theorem QT(x:gX):exec E0 21 C12 0 (QX 0 (g.A x)) (g.H x) (finish 0 ty [.tmp 6,.tmp 7] f)=m x:=by kernel_rfl
theorem tl:QI C12 0=[]:=by kernel_rfl
theorem known:QS Try.prog 12 g f m:=
 QC mixed (Q6 QD Q5 _) s12 rfl rfl tl QB.nil (fun _ _=>⟨rfl,rfl⟩) (fun _ _=>⟨rfl,rfl⟩) QT
def con:Con:=X4 g f m default
theorem Q4:QU Try.prog 12 con:=Qd known (fun _=>rfl) rfl
end F12
namespace F25
structure gX where
 s_lo:Nat
 s_len:Nat
 xs:List (Int)
def g:Sg gX where
 vs:=[.c (.sl 0 0 1)]
 h:=[.arr (.int .i64) 0]
 to:=fun a b=>⟨a.1.1,a.1.2,b.1⟩
 fa:=fun x=>((x.s_lo,x.s_len),())
 fh:=fun x=>(x.xs,())
abbrev fY:=Nat×Nat×Nat×List (Int)
def f:Ft fY where
 ord:=none
 sh:=.c (.slc 0 0 1)
 h:=[.arr (.int .i64) 0]
 to:=fun a b=>(a.1,a.2.1,a.2.2,b.1)
 fv:=fun y=>(y.1,y.2.1,y.2.2.1)
 fh:=fun y=>(y.2.2.2,())
def cl:List (FuncId×Con):=[]
theorem Q5:QM Try.prog cl:=trivial
def E0:Env:=⟨ty,QQ cl,fun _=>none,none⟩
def m(x:gX):Option fY:=bif decide (0≤(↑x.s_len:Int))&&decide ((↑x.s_len:Int)≤(↑x.s_len:Int))&&(decide (0≤(↑x.s_len:Int))&&decide ((↑x.s_len:Int)≤(↑(↑x.s_len:Int).toNat:Int))) then some (x.s_lo,(↑x.s_len:Int).toNat,(↑x.s_len:Int).toNat,x.xs) else none
theorem QT(x:gX):exec E0 9 C25 0 (QX 0 (g.A x)) (g.H x) (finish 1 ty [.tmp 2] f)=m x:=by kernel_rfl
theorem tl:QI C25 0=[]:=by kernel_rfl
theorem known:QS Try.prog 25 g f m:=
 QC mixed (Q6 QD Q5 _) s25 rfl rfl tl QB.nil (fun _ _=>⟨rfl,rfl⟩) (fun _ _=>⟨rfl,rfl⟩) QT
def con:Con:=conG g [.arg 0 0] f m default
theorem Q4:QU Try.prog 25 con:=V8 known
end F25
namespace F13
structure gX where
 outs:Int
 cols:List (Int)
 good:List (Int)
 bad:List (Int)
 mask:Int
def g:Sg gX where
 vs:=[.agg [.it .i64,.arr (.int .u64)],.c (.arr (.int .u8)),.c (.arr (.int .u8)),.c (.it .u64)]
 h:=[]
 to:=fun a b=>⟨a.1.1,a.1.2.1,a.2.1,a.2.2.1,a.2.2.2.1⟩
 fa:=fun x=>((x.outs,(x.cols,())),(x.good,(x.bad,(x.mask,()))))
 fh:=fun x=>()
abbrev fY:=List (Int)×Int
def f:Ft fY where
 ord:=none
 sh:=.tup [.inl (.arr (.int .i64)),.inl (.it .i64)]
 h:=[]
 to:=fun a b=>(a.1,a.2.1)
 fv:=fun y=>(y.1,(y.2,()))
 fh:=fun y=>()
def cl:List (FuncId×Con):=[(23,F23.con),(24,F24.con),(25,F25.con)]
theorem Q5:QM Try.prog cl:=⟨F23.Q4,F24.Q4,F25.Q4,trivial⟩
def E1:Env:=⟨ty,QQ cl,fun _=>none,none⟩
structure p0X where
 out_lo:Nat
 out_len:Nat
 x:List (Int)
 y:List (Int)
 n:Int
 i:Int
 outs:Int
 cols:List (Int)
 xs:List (Int)
def p0:Pt p0X where
 own:=[.reg 11 (.int .i64)]
 t:=⟨[(4,.c (.ptr 0 0)),(11,.c (.sl 5 0 1)),(12,.c (.arr (.int .u8))),(13,.c (.arr (.int .u8))),(33,.c (.it .i64)),(34,.c (.it .i64))],[.st [.it .i64,.arr (.int .u64)] 1 0,.st [.junk] 1 0,.st [.junk] 1 0,.st [.junk] 1 0,.st [.junk] 1 0,.arr (.int .i64) 0]⟩
 to:=fun v=>⟨v.1.2.1.1,v.1.2.1.2,v.1.2.2.1,v.1.2.2.2.1,v.1.2.2.2.2.1,v.1.2.2.2.2.2.1,v.2.1.1,v.2.1.2.1,v.2.2.2.2.2.2.1⟩
 fr:=fun x=>(((),((x.out_lo,x.out_len),(x.x,(x.y,(x.n,(x.i,())))))),((x.outs,(x.cols,())),(((),()),(((),()),(((),()),(((),()),(x.xs,())))))))
structure q0X where
 out_lo:Nat
 out_len:Nat
 outs:Int
 cols:List (Int)
 xs:List (Int)
def q0:Pt q0X where
 own:=[]
 t:=⟨[(11,.c (.sl 5 0 1))],[.st [.it .i64,.arr (.int .u64)] 1 0,.st [.junk] 1 0,.st [.junk] 1 0,.st [.junk] 1 0,.st [.junk] 1 0,.arr (.int .i64) 0]⟩
 to:=fun v=>⟨v.1.1.1,v.1.1.2,v.2.1.1,v.2.1.2.1,v.2.2.2.2.2.2.1⟩
 fr:=fun x=>(((x.out_lo,x.out_len),()),((x.outs,(x.cols,())),(((),()),(((),()),(((),()),(((),()),(x.xs,())))))))
def s0(x:p0X):Option (p0X⊕q0X):=bif decide (x.i<x.n) then bif inR x.i x.x.length then bif inR x.i x.y.length then bif IntKind.u8.wrap (x.x[x.i.toNat]?.getD 0+x.y[x.i.toNat]?.getD 0)==1 then bif eqN x.out_lo 0&&eqN x.xs.length x.out_len&&QP (x.out_len+1) 8 then some (Sum.inl ⟨0,x.out_len+1,x.x,x.y,x.n,IntKind.i64.wrap (x.i+1),x.outs,x.cols,x.xs++[x.i]⟩) else none else some (Sum.inl ⟨x.out_lo,x.out_len,x.x,x.y,x.n,IntKind.i64.wrap (x.i+1),x.outs,x.cols,x.xs⟩) else none else none else some (Sum.inr ⟨x.out_lo,x.out_len,x.outs,x.cols,x.xs⟩)
theorem Qe(x:p0X):exec E1 54 (C13.Q3 0) 1 (p0.R x) (p0.H x) (Qt 0 p0 (.exit 0) q0)=s0 x:=by kernel_rfl
def l0:QN:=Qu 0 p0 (.exit 0) q0 s0
theorem tl0:QI (C13.Q3 0) 1=[]:=by kernel_rfl
theorem Qf  :QG Try.prog 54 none 0 (C13.Q3 0) l0:=QO mixed (Q6 QD Q5 _) (by trivial) (fun _=>rfl) (fun _=>rfl) (tl0▸QB.nil) Qe
def E0:Env:=⟨ty,QQ cl,JL [(0,l0)],none⟩
def m(x:gX):Option fY:=Q2 (F23.m ⟨x.outs,x.cols,x.mask,[x.good,x.bad]⟩) fun y=>bif y !=0 then some ([],y) else Q2 (F24.m ⟨x.outs,x.cols,x.good,x.mask⟩) fun y=>Q2 (F24.m ⟨x.outs,x.cols,x.bad,x.mask⟩) fun y_1=>Q2 (iter s0 ⟨0,0,y,y_1,x.outs,0,x.outs,x.cols,[]⟩) fun y=>Q2 (F25.m ⟨y.out_lo,y.out_len,y.xs⟩) fun y=>bif leB (y.1+y.2.1) y.2.2.2.length&&true&&true&&true then some (List.take y.2.1 (List.drop y.1 y.2.2.2),0) else none
theorem QT(x:gX):exec E0 54 C13 0 (QX 0 (g.A x)) (g.H x) (finish 0 ty [.tmp 8,.tmp 9] f)=m x:=by kernel_rfl
theorem tl:QI C13 0=[(0,C13.Q3 0)]:=by kernel_rfl
theorem known:QS Try.prog 13 g f m:=
 QC mixed (Q6 QD Q5 _) s13 rfl rfl tl (QB.cons rfl Qf QB.nil) (fun _ _=>⟨rfl,rfl⟩) (fun _ _=>⟨rfl,rfl⟩) QT
def con:Con:=X4 g f m default
theorem Q4:QU Try.prog 13 con:=Qd known (fun _=>rfl) rfl
end F13
end Go.Proofs.Ytfcbahfdgopgfaa
namespace Go.Proofs.Ytfcbahfdgopgfaa
open Go.Abs
set_option maxRecDepth 100000
namespace F14
structure gX where
 s:List (Int)
def g:Sg gX where
 vs:=[.c (.arr (.int .u8))]
 h:=[]
 to:=fun a b=>⟨a.1⟩
 fa:=fun x=>(x.s,())
 fh:=fun x=>()
abbrev fY:=Int×Int
def f:Ft fY where
 ord:=none
 sh:=.tup [.inl (.it .u64),.inl (.it .i64)]
 h:=[]
 to:=fun a b=>(a.1,a.2.1)
 fv:=fun y=>(y.1,(y.2,()))
 fh:=fun y=>()
def cl:List (FuncId×Con):=[]
theorem Q5:QM Try.prog cl:=trivial
def E1:Env:=⟨ty,QQ cl,fun _=>none,none⟩
structure p0X where
 mask:Int
 s:List (Int)
 n:Int
 i:Int
def p0:Pt p0X where
 own:=[]
 t:=⟨[(2,.c (.it .u64)),(9,.c (.arr (.int .u8))),(10,.c (.it .i64)),(11,.c (.it .i64))],[]⟩
 to:=fun v=>⟨v.1.1,v.1.2.1,v.1.2.2.1,v.1.2.2.2.1⟩
 fr:=fun x=>((x.mask,(x.s,(x.n,(x.i,())))),())
structure q0X where
 mask:Int
def q0:Pt q0X where
 own:=[]
 t:=⟨[(2,.c (.it .u64))],[]⟩
 to:=fun v=>⟨v.1.1⟩
 fr:=fun x=>((x.mask,()),())
structure z0X where
 mask:Int
 e:Int
def z0:Pt z0X where
 own:=[]
 t:=⟨[(2,.c (.it .u64)),(3,.c (.it .i64))],[]⟩
 to:=fun v=>⟨v.1.1,v.1.2.1⟩
 fr:=fun x=>((x.mask,(x.e,())),())
def s0(x:p0X):Option (p0X⊕(q0X⊕z0X)):=bif decide (x.i<x.n) then bif inR x.i x.s.length then bif decide (x.s[x.i.toNat]?.getD 0>2) then some (Sum.inr (Sum.inr ⟨0,1⟩)) else bif bif decide (0≤x.i)&&true then true else bif x.s[x.i.toNat]?.getD 0==2 then false else true then some (Sum.inl ⟨bif x.s[x.i.toNat]?.getD 0==2 then IntKind.u64.wrap (↑(BitVec.ofInt 64 x.mask|||BitVec.ofInt 64 (IntKind.u64.wrap (1*2^min x.i.toNat 64))).toNat:Int) else x.mask,x.s,x.n,IntKind.i64.wrap (x.i+1)⟩) else none else none else some (Sum.inr (Sum.inl ⟨x.mask⟩))
theorem Qe(x:p0X):exec E1 28 (C14.Q3 0) 1 (p0.R x) (p0.H x) (JH 0 p0 (.exit 0) q0 .ret z0)=s0 x:=by kernel_rfl
def l0:QN:=JE 0 p0 (.exit 0) q0 .ret z0 s0
theorem tl0:QI (C14.Q3 0) 1=[]:=by kernel_rfl
theorem Qf  :QG Try.prog 28 none 0 (C14.Q3 0) l0:=Qg mixed (Q6 QD Q5 _) (by trivial) (by trivial) (fun _=>rfl) (fun _=>rfl) (fun _=>rfl) (tl0▸QB.nil) Qe
def E0:Env:=⟨ty,QQ cl,JL [(0,l0)],none⟩
def m(x:gX):Option fY:=bif decide ((↑x.s.length:Int)>64) then some (0,3) else Q2 (iter s0 ⟨0,x.s,(↑x.s.length:Int),0⟩) fun s=>JK s (fun y=>some (y.mask,0)) fun z=>some (z.mask,z.e)
theorem QT(x:gX):exec E0 28 C14 0 (QX 0 (g.A x)) (g.H x) (finish 0 ty [.tmp 2,.tmp 3] f)=m x:=by kernel_rfl
theorem tl:QI C14 0=[(0,C14.Q3 0)]:=by kernel_rfl
theorem known:QS Try.prog 14 g f m:=
 QC mixed (Q6 QD Q5 _) s14 rfl rfl tl (QB.cons rfl Qf QB.nil) (fun _ _=>⟨rfl,rfl⟩) (fun _ _=>⟨rfl,rfl⟩) QT
def con:Con:=X4 g f m default
theorem Q4:QU Try.prog 14 con:=Qd known (fun _=>rfl) rfl
end F14
namespace F10
structure gX where
 outs:Int
 cols:List (Int)
def g:Sg gX where
 vs:=[.agg [.it .u8,.arr (.int .u32)]]
 h:=[]
 to:=fun a b=>⟨a.1.1,a.1.2.1⟩
 fa:=fun x=>((x.outs,(x.cols,())),())
 fh:=fun x=>()
abbrev fY:=Int×List (Int)
def f:Ft fY where
 ord:=none
 sh:=.agg [.it .i64,.arr (.int .u64)]
 h:=[]
 to:=fun a b=>(a.1,a.2.1)
 fv:=fun y=>(y.1,(y.2,()))
 fh:=fun y=>()
def cl:List (FuncId×Con):=[]
theorem Q5:QM Try.prog cl:=trivial
def E1:Env:=⟨ty,QQ cl,fun _=>none,none⟩
structure p0X where
 i:Int
 outs0:Int
 cols0:List (Int)
 outs:Int
 cols_lo:Nat
 cols_len:Nat
 xs:List (Int)
def p0:Pt p0X where
 own:=[.cell 2 1 (.int .u64)]
 t:=⟨[(1,.c (.ptr 0 0)),(2,.c (.ptr 1 0)),(3,.c (.ptr 2 0)),(4,.c (.it .i64))],[.st [.it .u8,.arr (.int .u32)] 1 0,.st [.junk,.junk] 1 0,.st [.it .i64,.sl 3 0 1] 1 0,.arr (.int .u64) 0]⟩
 to:=fun v=>⟨v.1.2.2.2.1,v.2.1.1,v.2.1.2.1,v.2.2.2.1.1,v.2.2.2.1.2.1.1,v.2.2.2.1.2.1.2,v.2.2.2.2.1⟩
 fr:=fun x=>(((),((),((),(x.i,())))),((x.outs0,(x.cols0,())),(((),((),())),((x.outs,((x.cols_lo,x.cols_len),())),(x.xs,())))))
structure q0X where
 outs0:Int
 cols0:List (Int)
 outs:Int
 cols_lo:Nat
 cols_len:Nat
 xs:List (Int)
def q0:Pt q0X where
 own:=[]
 t:=⟨[(2,.c (.ptr 1 0)),(3,.c (.ptr 2 0))],[.st [.it .u8,.arr (.int .u32)] 1 0,.st [.junk,.junk] 1 0,.st [.it .i64,.sl 3 0 1] 1 0,.arr (.int .u64) 0]⟩
 to:=fun v=>⟨v.2.1.1,v.2.1.2.1,v.2.2.2.1.1,v.2.2.2.1.2.1.1,v.2.2.2.1.2.1.2,v.2.2.2.2.1⟩
 fr:=fun x=>(((),((),())),((x.outs0,(x.cols0,())),(((),((),())),((x.outs,((x.cols_lo,x.cols_len),())),(x.xs,())))))
def s0(x:p0X):Option (p0X⊕q0X):=bif decide (x.i<(↑x.cols0.length:Int)) then bif inR x.i x.cols0.length then bif decide (0≤x.outs) then bif nz (IntKind.u64.wrap (1*2^min x.outs.toNat 64)) then bif eqN x.cols_lo 0&&eqN x.xs.length x.cols_len&&QP (x.cols_len+1) 8 then some (Sum.inl ⟨IntKind.i64.wrap (x.i+1),x.outs0,x.cols0,x.outs,0,x.cols_len+1,x.xs++[(IntKind.u64.wrap (x.cols0[x.i.toNat]?.getD 0)).tmod (IntKind.u64.wrap (1*2^min x.outs.toNat 64))]⟩) else none else none else none else none else some (Sum.inr ⟨x.outs0,x.cols0,x.outs,x.cols_lo,x.cols_len,x.xs⟩)
theorem Qe(x:p0X):exec E1 33 (C10.Q3 0) 1 (p0.R x) (p0.H x) (Qt 0 p0 (.exit 0) q0)=s0 x:=by kernel_rfl
def l0:QN:=Qu 0 p0 (.exit 0) q0 s0
theorem tl0:QI (C10.Q3 0) 1=[]:=by kernel_rfl
theorem Qf  :QG Try.prog 33 none 0 (C10.Q3 0) l0:=QO mixed (Q6 QD Q5 _) (by trivial) (fun _=>rfl) (fun _=>rfl) (tl0▸QB.nil) Qe
def E0:Env:=⟨ty,QQ cl,JL [(0,l0)],none⟩
def m(x:gX):Option fY:=Q2 (iter s0 ⟨0,x.outs,x.cols,IntKind.i64.wrap (x.outs.tmod 17),0,0,[]⟩) fun y=>bif leB (y.cols_lo+y.cols_len) y.xs.length&&true&&true&&true then some (y.outs,List.take y.cols_len (List.drop y.cols_lo y.xs)) else none
theorem QT(x:gX):exec E0 33 C10 0 (QX 0 (g.A x)) (g.H x) (finish 0 ty [.cell 2 32] f)=m x:=by kernel_rfl
theorem tl:QI C10 0=[(0,C10.Q3 0)]:=by kernel_rfl
theorem known:QS Try.prog 10 g f m:=
 QC mixed (Q6 QD Q5 _) s10 rfl rfl tl (QB.cons rfl Qf QB.nil) (fun _ _=>⟨rfl,rfl⟩) (fun _ _=>⟨rfl,rfl⟩) QT
def con:Con:=X4 g f m default
theorem Q4:QU Try.prog 10 con:=Qd known (fun _=>rfl) rfl
end F10
namespace F11
structure gX where
 l:List (Int)
 n:Int
def g:Sg gX where
 vs:=[.c (.arr (.int .u8)),.c (.it .i64)]
 h:=[]
 to:=fun a b=>⟨a.1,a.2.1⟩
 fa:=fun x=>(x.l,(x.n,()))
 fh:=fun x=>()
abbrev fY:=List (Int)
def f:Ft fY where
 ord:=none
 sh:=.c (.arr (.int .u8))
 h:=[]
 to:=fun a b=>(a)
 fv:=fun y=>y
 fh:=fun y=>()
def cl:List (FuncId×Con):=[]
theorem Q5:QM Try.prog cl:=trivial
def E1:Env:=⟨ty,QQ cl,fun _=>none,none⟩
structure p0X where
 l:List (Int)
 n:Int
 out_lo:Nat
 out_len:Nat
 out_cap:Nat
 i:Int
 xs:List (Int)
def p0:Pt p0X where
 own:=[]
 t:=⟨[(0,.c (.arr (.int .u8))),(1,.c (.it .i64)),(5,.c (.slc 0 0 1)),(6,.c (.it .i64))],[.arr (.int .u8) 0]⟩
 to:=fun v=>⟨v.1.1,v.1.2.1,v.1.2.2.1.1,v.1.2.2.1.2.1,v.1.2.2.1.2.2,v.1.2.2.2.1,v.2.1⟩
 fr:=fun x=>((x.l,(x.n,((x.out_lo,x.out_len,x.out_cap),(x.i,())))),(x.xs,()))
structure q0X where
 out_lo:Nat
 out_len:Nat
 out_cap:Nat
 xs:List (Int)
def q0:Pt q0X where
 own:=[]
 t:=⟨[(5,.c (.slc 0 0 1))],[.arr (.int .u8) 0]⟩
 to:=fun v=>⟨v.1.1.1,v.1.1.2.1,v.1.1.2.2,v.2.1⟩
 fr:=fun x=>(((x.out_lo,x.out_len,x.out_cap),()),(x.xs,()))
def s0(x:p0X):Option (p0X⊕q0X):=bif bif decide (x.i<x.n) then decide (x.i<(↑x.l.length:Int)) else false then bif inR x.i x.l.length then bif inR x.i x.out_len then bif decide (x.out_lo+x.i.toNat<x.xs.length) then some (Sum.inl ⟨x.l,x.n,x.out_lo,x.out_len,x.out_cap,IntKind.i64.wrap (x.i+1),x.xs.set (x.out_lo+x.i.toNat) (Int.tmod (x.l[x.i.toNat]?.getD 0) 3)⟩) else none else none else none else some (Sum.inr ⟨x.out_lo,x.out_len,x.out_cap,x.xs⟩)
theorem Qe(x:p0X):exec E1 29 (C11.Q3 0) 1 (p0.R x) (p0.H x) (Qt 0 p0 (.exit 0) q0)=s0 x:=by kernel_rfl
def l0:QN:=Qu 0 p0 (.exit 0) q0 s0
theorem tl0:QI (C11.Q3 0) 1=[]:=by kernel_rfl
theorem Qf  :QG Try.prog 29 none 0 (C11.Q3 0) l0:=QO mixed (Q6 QD Q5 _) (by trivial) (fun _=>rfl) (fun _=>rfl) (tl0▸QB.nil) Qe
def E0:Env:=⟨ty,QQ cl,JL [(0,l0)],none⟩
def m(x:gX):Option fY:=bif decide (0≤x.n)&&decide (x.n≤x.n)&&decide (x.n*(↑1:Int)≤281474976710656)&&decide (x.n≤9223372036854775807) then Q2 (iter s0 ⟨x.l,x.n,0,x.n.toNat,x.n.toNat,0,List.replicate x.n.toNat (0:Int)⟩) fun y=>bif leB (y.out_lo+y.out_len) y.xs.length&&true&&true then some (List.take y.out_len (List.drop y.out_lo y.xs)) else none else none
theorem QT(x:gX):exec E0 29 C11 0 (QX 0 (g.A x)) (g.H x) (finish 0 ty [.tmp 4] f)=m x:=by kernel_rfl
theorem tl:QI C11 0=[(0,C11.Q3 0)]:=by kernel_rfl
theorem known:QS Try.prog 11 g f m:=
 QC mixed (Q6 QD Q5 _) s11 rfl rfl tl (QB.cons rfl Qf QB.nil) (fun _ _=>⟨rfl,rfl⟩) (fun _ _=>⟨rfl,rfl⟩) QT
def con:Con:=X4 g f m default
theorem Q4:QU Try.prog 11 con:=Qd known (fun _=>rfl) rfl
end F11
namespace F16
structure gX where
 outs:Int
 cols:List (Int)
 i:Int
 o:Int
def g:Sg gX where
 vs:=[.agg [.it .i64,.arr (.int .u64)],.c (.it .i64),.c (.it .i64)]
 h:=[]
 to:=fun a b=>⟨a.1.1,a.1.2.1,a.2.1,a.2.2.1⟩
 fa:=fun x=>((x.outs,(x.cols,())),(x.i,(x.o,())))
 fh:=fun x=>()
abbrev fY:=Bool
def f:Ft fY where
 ord:=none
 sh:=.c (.bo)
 h:=[]
 to:=fun a b=>(a)
 fv:=fun y=>y
 fh:=fun y=>()
def cl:List (FuncId×Con):=[]
theorem Q5:QM Try.prog cl:=trivial
def E0:Env:=⟨ty,QQ cl,fun _=>none,none⟩
def m(x:gX):Option fY:=bif inR x.i x.cols.length then bif decide (0≤x.o) then some ((Int.fdiv (x.cols[x.i.toNat]?.getD 0) (2^min x.o.toNat 64)).tmod 2==1) else none else none
theorem QT(x:gX):exec E0 16 C16 0 (QX 0 (g.A x)) (g.H x) (finish 0 ty [.tmp 6] f)=m x:=by kernel_rfl
theorem tl:QI C16 0=[]:=by kernel_rfl
theorem known:QS Try.prog 16 g f m:=
 QC mixed (Q6 QD Q5 _) s16 rfl rfl tl QB.nil (fun _ _=>⟨rfl,rfl⟩) (fun _ _=>⟨rfl,rfl⟩) QT
def con:Con:=X4 g f m default
theorem Q4:QU Try.prog 16 con:=Qd known (fun _=>rfl) rfl
end F16
namespace F15
structure gX where
 outs:Int
 cols:List (Int)
 l:List (Int)
 mask:Int
 o:Int
def g:Sg gX where
 vs:=[.agg [.it .i64,.arr (.int .u64)],.c (.arr (.int .u8)),.c (.it .u64),.c (.it .i64)]
 h:=[]
 to:=fun a b=>⟨a.1.1,a.1.2.1,a.2.1,a.2.2.1,a.2.2.2.1⟩
 fa:=fun x=>((x.outs,(x.cols,())),(x.l,(x.mask,(x.o,()))))
 fh:=fun x=>()
abbrev fY:=Int
def f:Ft fY where
 ord:=none
 sh:=.c (.it .u8)
 h:=[]
 to:=fun a b=>(a)
 fv:=fun y=>y
 fh:=fun y=>()
def cl:List (FuncId×Con):=[(16,F16.con)]
theorem Q5:QM Try.prog cl:=⟨F16.Q4,trivial⟩
def E1:Env:=⟨ty,QQ cl,fun _=>none,none⟩
structure p0X where
 l:List (Int)
 mask:Int
 o:Int
 out:Int
 i:Int
 outs:Int
 cols:List (Int)
def p0:Pt p0X where
 own:=[]
 t:=⟨[(1,.c (.arr (.int .u8))),(2,.c (.it .u64)),(3,.c (.it .i64)),(4,.c (.ptr 0 0)),(9,.c (.it .u8)),(10,.c (.it .i64))],[.st [.it .i64,.arr (.int .u64)] 1 0]⟩
 to:=fun v=>⟨v.1.1,v.1.2.1,v.1.2.2.1,v.1.2.2.2.2.1,v.1.2.2.2.2.2.1,v.2.1.1,v.2.1.2.1⟩
 fr:=fun x=>((x.l,(x.mask,(x.o,((),(x.out,(x.i,())))))),((x.outs,(x.cols,())),()))
structure q0X where
 out:Int
def q0:Pt q0X where
 own:=[]
 t:=⟨[(9,.c (.it .u8))],[]⟩
 to:=fun v=>⟨v.1.1⟩
 fr:=fun x=>((x.out,()),())
structure z0X where
 r:Int
def z0:Pt z0X where
 own:=[]
 t:=⟨[(8,.c (.it .u8))],[]⟩
 to:=fun v=>⟨v.1.1⟩
 fr:=fun x=>((x.r,()),())
def s0(x:p0X):Option (p0X⊕(q0X⊕z0X)):=bif decide (x.i<(↑x.l.length:Int)) then bif decide (0≤x.i) then Q2 (bif !(x.mask.fdiv (2^min x.i.toNat 64)).tmod 2==1 then F16.m ⟨x.outs,x.cols,x.i,x.o⟩ else some false) fun y=>bif bif (x.mask.fdiv (2^min x.i.toNat 64)).tmod 2==1 then true else !y then some (Sum.inl ⟨x.l,x.mask,x.o,x.out,IntKind.i64.wrap (x.i+1),x.outs,x.cols⟩) else bif inR x.i x.l.length then bif x.l[x.i.toNat]?.getD 0==2 then some (Sum.inr (Sum.inr ⟨2⟩)) else bif inR x.i x.l.length then some (Sum.inl ⟨x.l,x.mask,x.o,bif x.l[x.i.toNat]?.getD 0==1 then IntKind.u8.wrap (1 - x.out) else x.out,IntKind.i64.wrap (x.i+1),x.outs,x.cols⟩) else none else none else none else some (Sum.inr (Sum.inl ⟨x.out⟩))
theorem Qe(x:p0X):exec E1 42 (C15.Q3 0) 1 (p0.R x) (p0.H x) (JH 0 p0 (.exit 0) q0 .ret z0)=s0 x:=by kernel_rfl
def l0:QN:=JE 0 p0 (.exit 0) q0 .ret z0 s0
theorem tl0:QI (C15.Q3 0) 1=[]:=by kernel_rfl
theorem Qf  :QG Try.prog 42 none 0 (C15.Q3 0) l0:=Qg mixed (Q6 QD Q5 _) (by trivial) (by trivial) (fun _=>rfl) (fun _=>rfl) (fun _=>rfl) (tl0▸QB.nil) Qe
def E0:Env:=⟨ty,QQ cl,JL [(0,l0)],none⟩
def m(x:gX):Option fY:=Q2 (iter s0 ⟨x.l,x.mask,x.o,0,0,x.outs,x.cols⟩) fun s=>JK s (fun y=>some y.out) fun z=>some z.r
theorem QT(x:gX):exec E0 42 C15 0 (QX 0 (g.A x)) (g.H x) (finish 0 ty [.tmp 8] f)=m x:=by kernel_rfl
theorem tl:QI C15 0=[(0,C15.Q3 0)]:=by kernel_rfl
theorem known:QS Try.prog 15 g f m:=
 QC mixed (Q6 QD Q5 _) s15 rfl rfl tl (QB.cons rfl Qf QB.nil) (fun _ _=>⟨rfl,rfl⟩) (fun _ _=>⟨rfl,rfl⟩) QT
def con:Con:=X4 g f m default
theorem Q4:QU Try.prog 15 con:=Qd known (fun _=>rfl) rfl
end F15
namespace F17
structure gX where
 outs:Int
 cols:List (Int)
 chain:Int
 unknown:Int
def g:Sg gX where
 vs:=[.agg [.it .i64,.arr (.int .u64)],.c (.it .i64),.c (.it .u64)]
 h:=[]
 to:=fun a b=>⟨a.1.1,a.1.2.1,a.2.1,a.2.2.1⟩
 fa:=fun x=>((x.outs,(x.cols,())),(x.chain,(x.unknown,())))
 fh:=fun x=>()
abbrev fY:=Bool×Int
def f:Ft fY where
 ord:=none
 sh:=.tup [.inl (.bo),.inl (.it .i64)]
 h:=[]
 to:=fun a b=>(a.1,a.2.1)
 fv:=fun y=>(y.1,(y.2,()))
 fh:=fun y=>()
def cl:List (FuncId×Con):=[(26,F26.con),(27,F27.con),(28,F28.con)]
theorem Q5:QM Try.prog cl:=⟨F26.Q4,F27.Q4,F28.Q4,trivial⟩
def E1:Env:=⟨ty,QQ cl,fun _=>none,none⟩
structure p0X where
 unknown:Int
 free:Int
 s:List (Int)
 n:Int
 i:Int
def p0:Pt p0X where
 own:=[]
 t:=⟨[(2,.c (.it .u64)),(9,.c (.it .u64)),(39,.c (.arr (.int .u64))),(40,.c (.it .i64)),(41,.c (.it .i64))],[]⟩
 to:=fun v=>⟨v.1.1,v.1.2.1,v.1.2.2.1,v.1.2.2.2.1,v.1.2.2.2.2.1⟩
 fr:=fun x=>((x.unknown,(x.free,(x.s,(x.n,(x.i,()))))),())
structure q0X where
 free:Int
def q0:Pt q0X where
 own:=[]
 t:=⟨[(9,.c (.it .u64))],[]⟩
 to:=fun v=>⟨v.1.1⟩
 fr:=fun x=>((x.free,()),())
def s0(x:p0X):Option (p0X⊕q0X):=bif decide (x.i<x.n) then bif inR x.i x.s.length then Q2 (F28.m ⟨x.unknown,x.i⟩) fun y=>some (Sum.inl ⟨x.unknown,bif y then IntKind.u64.wrap (↑(BitVec.ofInt 64 x.free&&& ~~~BitVec.ofInt 64 (x.s[x.i.toNat]?.getD 0)).toNat:Int) else x.free,x.s,x.n,IntKind.i64.wrap (x.i+1)⟩) else none else some (Sum.inr ⟨x.free⟩)
theorem Qe(x:p0X):exec E1 55 (C17.Q3 0) 1 (p0.R x) (p0.H x) (Qt 0 p0 (.exit 0) q0)=s0 x:=by kernel_rfl
def l0:QN:=Qu 0 p0 (.exit 0) q0 s0
theorem tl0:QI (C17.Q3 0) 1=[]:=by kernel_rfl
theorem Qf  :QG Try.prog 55 none 0 (C17.Q3 0) l0:=QO mixed (Q6 QD Q5 _) (by trivial) (fun _=>rfl) (fun _=>rfl) (tl0▸QB.nil) Qe
def E0:Env:=⟨ty,QQ cl,JL [(0,l0)],none⟩
def m(x:gX):Option fY:=Q2 (F26.m ⟨x.outs,x.cols⟩) fun y=>bif y !=0 then some (false,y) else Q2 (bif !bif decide (x.chain<0) then true else decide (x.chain≥(↑x.cols.length:Int)) then F27.m ⟨x.unknown,(↑x.cols.length:Int)⟩ else some false) fun y=>bif bif bif decide (x.chain<0) then true else decide (x.chain≥(↑x.cols.length:Int)) then true else y then some (false,1) else bif inR x.chain x.cols.length then Q2 (iter s0 ⟨x.unknown,x.cols[x.chain.toNat]?.getD 0,x.cols,(↑x.cols.length:Int),0⟩) fun y=>some (y.free !=0,0) else none
theorem QT(x:gX):exec E0 55 C17 0 (QX 0 (g.A x)) (g.H x) (finish 0 ty [.tmp 6,.tmp 7] f)=m x:=by kernel_rfl
theorem tl:QI C17 0=[(0,C17.Q3 0)]:=by kernel_rfl
theorem known:QS Try.prog 17 g f m:=
 QC mixed (Q6 QD Q5 _) s17 rfl rfl tl (QB.cons rfl Qf QB.nil) (fun _ _=>⟨rfl,rfl⟩) (fun _ _=>⟨rfl,rfl⟩) QT
def con:Con:=X4 g f m default
theorem Q4:QU Try.prog 17 con:=Qd known (fun _=>rfl) rfl
end F17
end Go.Proofs.Ytfcbahfdgopgfaa
namespace Go.Proofs.Ytfcbahfdgopgfaa
open Go.Abs
set_option maxRecDepth 100000
namespace F13o
structure gX where
 outs:Int
 cols:List (Int)
 good:List (Int)
 bad:List (Int)
 mask:Int
def g:Sg gX where
 vs:=[.agg [.it .i64,.arr (.int .u64)],.c (.arr (.int .u8)),.c (.arr (.int .u8)),.c (.it .u64)]
 h:=[]
 to:=fun a b=>⟨a.1.1,a.1.2.1,a.2.1,a.2.2.1,a.2.2.2.1⟩
 fa:=fun x=>((x.outs,(x.cols,())),(x.good,(x.bad,(x.mask,()))))
 fh:=fun x=>()
abbrev fY:=Nat×Nat×Nat×Int×List (Int)
def f:Ft fY where
 ord:=some [5,0,1,2,3,4]
 sh:=.tup [.inl (.slc 0 0 1),.inl (.it .i64)]
 h:=[.arr (.int .i64) 0]
 to:=fun a b=>(a.1.1,a.1.2.1,a.1.2.2,a.2.1,b.1)
 fv:=fun y=>((y.1,y.2.1,y.2.2.1),(y.2.2.2.1,()))
 fh:=fun y=>(y.2.2.2.2,())
def cl:List (FuncId×Con):=[(23,F23.con),(24,F24.con),(25,F25.con)]
theorem Q5:QM Try.prog cl:=⟨F23.Q4,F24.Q4,F25.Q4,trivial⟩
def E1:Env:=⟨ty,QQ cl,fun _=>none,none⟩
structure p0X where
 out_lo:Nat
 out_len:Nat
 x:List (Int)
 y:List (Int)
 n:Int
 i:Int
 outs:Int
 cols:List (Int)
 xs:List (Int)
def p0:Pt p0X where
 own:=[.reg 11 (.int .i64)]
 t:=⟨[(4,.c (.ptr 0 0)),(11,.c (.sl 5 0 1)),(12,.c (.arr (.int .u8))),(13,.c (.arr (.int .u8))),(33,.c (.it .i64)),(34,.c (.it .i64))],[.st [.it .i64,.arr (.int .u64)] 1 0,.st [.junk] 1 0,.st [.junk] 1 0,.st [.junk] 1 0,.st [.junk] 1 0,.arr (.int .i64) 0]⟩
 to:=fun v=>⟨v.1.2.1.1,v.1.2.1.2,v.1.2.2.1,v.1.2.2.2.1,v.1.2.2.2.2.1,v.1.2.2.2.2.2.1,v.2.1.1,v.2.1.2.1,v.2.2.2.2.2.2.1⟩
 fr:=fun x=>(((),((x.out_lo,x.out_len),(x.x,(x.y,(x.n,(x.i,())))))),((x.outs,(x.cols,())),(((),()),(((),()),(((),()),(((),()),(x.xs,())))))))
structure q0X where
 out_lo:Nat
 out_len:Nat
 outs:Int
 cols:List (Int)
 xs:List (Int)
def q0:Pt q0X where
 own:=[]
 t:=⟨[(11,.c (.sl 5 0 1))],[.st [.it .i64,.arr (.int .u64)] 1 0,.st [.junk] 1 0,.st [.junk] 1 0,.st [.junk] 1 0,.st [.junk] 1 0,.arr (.int .i64) 0]⟩
 to:=fun v=>⟨v.1.1.1,v.1.1.2,v.2.1.1,v.2.1.2.1,v.2.2.2.2.2.2.1⟩
 fr:=fun x=>(((x.out_lo,x.out_len),()),((x.outs,(x.cols,())),(((),()),(((),()),(((),()),(((),()),(x.xs,())))))))
def s0(x:p0X):Option (p0X⊕q0X):=bif decide (x.i<x.n) then bif inR x.i x.x.length then bif inR x.i x.y.length then bif IntKind.u8.wrap (x.x[x.i.toNat]?.getD 0+x.y[x.i.toNat]?.getD 0)==1 then bif eqN x.out_lo 0&&eqN x.xs.length x.out_len&&QP (x.out_len+1) 8 then some (Sum.inl ⟨0,x.out_len+1,x.x,x.y,x.n,IntKind.i64.wrap (x.i+1),x.outs,x.cols,x.xs++[x.i]⟩) else none else some (Sum.inl ⟨x.out_lo,x.out_len,x.x,x.y,x.n,IntKind.i64.wrap (x.i+1),x.outs,x.cols,x.xs⟩) else none else none else some (Sum.inr ⟨x.out_lo,x.out_len,x.outs,x.cols,x.xs⟩)
theorem Qe(x:p0X):exec E1 54 (C13.Q3 0) 1 (p0.R x) (p0.H x) (Qt 0 p0 (.exit 0) q0)=s0 x:=by kernel_rfl
def l0:QN:=Qu 0 p0 (.exit 0) q0 s0
theorem tl0:QI (C13.Q3 0) 1=[]:=by kernel_rfl
theorem Qf  :QG Try.prog 54 none 0 (C13.Q3 0) l0:=QO mixed (Q6 QD Q5 _) (by trivial) (fun _=>rfl) (fun _=>rfl) (tl0▸QB.nil) Qe
def E0:Env:=⟨ty,QQ cl,JL [(0,l0)],none⟩
def m(x:gX):Option fY:=Q2 (F23.m ⟨x.outs,x.cols,x.mask,[x.good,x.bad]⟩) fun y=>bif y !=0 then none else Q2 (F24.m ⟨x.outs,x.cols,x.good,x.mask⟩) fun y=>Q2 (F24.m ⟨x.outs,x.cols,x.bad,x.mask⟩) fun y_1=>Q2 (iter s0 ⟨0,0,y,y_1,x.outs,0,x.outs,x.cols,[]⟩) fun y=>Q2 (F25.m ⟨y.out_lo,y.out_len,y.xs⟩) fun y=>some (y.1,y.2.1,y.2.2.1,0,y.2.2.2)
theorem QT(x:gX):exec E0 54 C13 0 (QX 0 (g.A x)) (g.H x) (finish 0 ty [.tmp 8,.tmp 9] f)=m x:=by kernel_rfl
theorem tl:QI C13 0=[(0,C13.Q3 0)]:=by kernel_rfl
theorem known:QS Try.prog 13 g f m:=
 QC mixed (Q6 QD Q5 _) s13 rfl rfl tl (QB.cons rfl Qf QB.nil) (fun _ _=>⟨rfl,rfl⟩) (fun _ _=>⟨rfl,rfl⟩) QT
def con:Con:=conF g f m default
theorem Q4:QU Try.prog 13 con:=conF_ok known (fun _=>rfl) (fun _=>rfl)
end F13o
namespace F29
structure gX where
 s:List (Int)
 v:Int
def g:Sg gX where
 vs:=[.c (.arr (.int .u64)),.c (.it .u64)]
 h:=[]
 to:=fun a b=>⟨a.1,a.2.1⟩
 fa:=fun x=>(x.s,(x.v,()))
 fh:=fun x=>()
abbrev fY:=Int
def f:Ft fY where
 ord:=none
 sh:=.c (.it .i64)
 h:=[]
 to:=fun a b=>(a)
 fv:=fun y=>y
 fh:=fun y=>()
def cl:List (FuncId×Con):=[]
theorem Q5:QM Try.prog cl:=trivial
def E1:Env:=⟨ty,QQ cl,fun _=>none,none⟩
structure p0X where
 s:List (Int)
 v:Int
 n:Int
 i:Int
def p0:Pt p0X where
 own:=[]
 t:=⟨[(0,.c (.arr (.int .u64))),(1,.c (.it .u64)),(7,.c (.it .i64)),(8,.c (.it .i64))],[]⟩
 to:=fun v=>⟨v.1.1,v.1.2.1,v.1.2.2.1,v.1.2.2.2.1⟩
 fr:=fun x=>((x.s,(x.v,(x.n,(x.i,())))),())
abbrev q0X:=Unit
def q0:Pt q0X where
 own:=[]
 t:=⟨[],[]⟩
 to:=fun v=>()
 fr:=fun x=>((),())
structure z0X where
 r:Int
def z0:Pt z0X where
 own:=[]
 t:=⟨[(4,.c (.it .i64))],[]⟩
 to:=fun v=>⟨v.1.1⟩
 fr:=fun x=>((x.r,()),())
def s0(x:p0X):Option (p0X⊕(q0X⊕z0X)):=bif decide (x.i<x.n) then bif inR x.i x.s.length then bif x.v==x.s[x.i.toNat]?.getD 0 then some (Sum.inr (Sum.inr ⟨x.i⟩)) else some (Sum.inl ⟨x.s,x.v,x.n,IntKind.i64.wrap (x.i+1)⟩) else none else some (Sum.inr (Sum.inl PUnit.unit))
theorem Qe(x:p0X):exec E1 19 (C29.Q3 0) 1 (p0.R x) (p0.H x) (JH 0 p0 (.exit 0) q0 .ret z0)=s0 x:=by kernel_rfl
def l0:QN:=JE 0 p0 (.exit 0) q0 .ret z0 s0
theorem tl0:QI (C29.Q3 0) 1=[]:=by kernel_rfl
theorem Qf  :QG Try.prog 19 none 0 (C29.Q3 0) l0:=Qg mixed (Q6 QD Q5 _) (by trivial) (by trivial) (fun _=>rfl) (fun _=>rfl) (fun _=>rfl) (tl0▸QB.nil) Qe
def E0:Env:=⟨ty,QQ cl,JL [(0,l0)],none⟩
def m(x:gX):Option fY:=Q2 (iter s0 ⟨x.s,x.v,(↑x.s.length:Int),0⟩) fun s=>JK s (fun y=>some (-1)) fun z=>some z.r
theorem QT(x:gX):exec E0 19 C29 0 (QX 0 (g.A x)) (g.H x) (finish 0 ty [.tmp 4] f)=m x:=by kernel_rfl
theorem tl:QI C29 0=[(0,C29.Q3 0)]:=by kernel_rfl
theorem known:QS Try.prog 29 g f m:=
 QC mixed (Q6 QD Q5 _) s29 rfl rfl tl (QB.cons rfl Qf QB.nil) (fun _ _=>⟨rfl,rfl⟩) (fun _ _=>⟨rfl,rfl⟩) QT
def con:Con:=X4 g f m default
theorem Q4:QU Try.prog 29 con:=Qd known (fun _=>rfl) rfl
end F29
namespace F30
structure gX where
 s:List (Int)
 v:Int
def g:Sg gX where
 vs:=[.c (.arr (.int .u64)),.c (.it .u64)]
 h:=[]
 to:=fun a b=>⟨a.1,a.2.1⟩
 fa:=fun x=>(x.s,(x.v,()))
 fh:=fun x=>()
abbrev fY:=Bool
def f:Ft fY where
 ord:=none
 sh:=.c (.bo)
 h:=[]
 to:=fun a b=>(a)
 fv:=fun y=>y
 fh:=fun y=>()
def cl:List (FuncId×Con):=[(29,F29.con)]
theorem Q5:QM Try.prog cl:=⟨F29.Q4,trivial⟩
def E0:Env:=⟨ty,QQ cl,fun _=>none,none⟩
def m(x:gX):Option fY:=Q2 (F29.m ⟨x.s,x.v⟩) fun y=>some (decide (y≥0))
theorem QT(x:gX):exec E0 9 C30 0 (QX 0 (g.A x)) (g.H x) (finish 0 ty [.tmp 4] f)=m x:=by kernel_rfl
theorem tl:QI C30 0=[]:=by kernel_rfl
theorem known:QS Try.prog 30 g f m:=
 QC mixed (Q6 QD Q5 _) s30 rfl rfl tl QB.nil (fun _ _=>⟨rfl,rfl⟩) (fun _ _=>⟨rfl,rfl⟩) QT
def con:Con:=X4 g f m default
theorem Q4:QU Try.prog 30 con:=Qd known (fun _=>rfl) rfl
end F30
namespace F18
structure gX where
 outs:Int
 cols:List (Int)
 outs2:List (Int)
def g:Sg gX where
 vs:=[.agg [.it .i64,.arr (.int .u64)],.c (.arr (.int .i64))]
 h:=[]
 to:=fun a b=>⟨a.1.1,a.1.2.1,a.2.1⟩
 fa:=fun x=>((x.outs,(x.cols,())),(x.outs2,()))
 fh:=fun x=>()
abbrev fY:=Int×Int
def f:Ft fY where
 ord:=none
 sh:=.tup [.inl (.it .i64),.inl (.it .i64)]
 h:=[]
 to:=fun a b=>(a.1,a.2.1)
 fv:=fun y=>(y.1,(y.2,()))
 fh:=fun y=>()
def cl:List (FuncId×Con):=[(26,F26.con),(29,F29.con),(30,F30.con)]
theorem Q5:QM Try.prog cl:=⟨F26.Q4,F29.Q4,F30.Q4,trivial⟩
def E1:Env:=⟨ty,QQ cl,fun _=>none,none⟩
structure p0X where
 set:Int
 last:Int
 w:List (Int)
 n:Int
 i:Int
 outs:Int
 cols:List (Int)
def p0:Pt p0X where
 own:=[]
 t:=⟨[(2,.c (.ptr 0 0)),(7,.c (.it .u64)),(8,.c (.it .i64)),(17,.c (.arr (.int .i64))),(18,.c (.it .i64)),(19,.c (.it .i64))],[.st [.it .i64,.arr (.int .u64)] 1 0]⟩
 to:=fun v=>⟨v.1.2.1,v.1.2.2.1,v.1.2.2.2.1,v.1.2.2.2.2.1,v.1.2.2.2.2.2.1,v.2.1.1,v.2.1.2.1⟩
 fr:=fun x=>(((),(x.set,(x.last,(x.w,(x.n,(x.i,())))))),((x.outs,(x.cols,())),()))
structure q0X where
 set:Int
 outs:Int
 cols:List (Int)
def q0:Pt q0X where
 own:=[]
 t:=⟨[(2,.c (.ptr 0 0)),(7,.c (.it .u64))],[.st [.it .i64,.arr (.int .u64)] 1 0]⟩
 to:=fun v=>⟨v.1.2.1,v.2.1.1,v.2.1.2.1⟩
 fr:=fun x=>(((),(x.set,())),((x.outs,(x.cols,())),()))
structure z0X where
 r:Int
 e:Int
def z0:Pt z0X where
 own:=[]
 t:=⟨[(4,.c (.it .i64)),(5,.c (.it .i64))],[]⟩
 to:=fun v=>⟨v.1.1,v.1.2.1⟩
 fr:=fun x=>((x.r,(x.e,())),())
def s0(x:p0X):Option (p0X⊕(q0X⊕z0X)):=bif decide (x.i<x.n) then bif inR x.i x.w.length then bif bif decide (x.w[x.i.toNat]?.getD 0≤x.last) then true else decide (x.w[x.i.toNat]?.getD 0≥x.outs) then some (Sum.inr (Sum.inr ⟨0,1⟩)) else bif decide (0≤x.w[x.i.toNat]?.getD 0) then some (Sum.inl ⟨IntKind.u64.wrap (↑(BitVec.ofInt 64 x.set|||BitVec.ofInt 64 (IntKind.u64.wrap (1*2^min (Int.toNat (x.w[x.i.toNat]?.getD 0)) 64))).toNat:Int),x.w[x.i.toNat]?.getD 0,x.w,x.n,IntKind.i64.wrap (x.i+1),x.outs,x.cols⟩) else none else none else some (Sum.inr (Sum.inl ⟨x.set,x.outs,x.cols⟩))
theorem Qe(x:p0X):exec E1 54 (C18.Q3 0) 1 (p0.R x) (p0.H x) (JH 0 p0 (.exit 0) q0 .ret z0)=s0 x:=by kernel_rfl
def l0:QN:=JE 0 p0 (.exit 0) q0 .ret z0 s0
theorem tl0:QI (C18.Q3 0) 1=[]:=by kernel_rfl
theorem Qf  :QG Try.prog 54 none 0 (C18.Q3 0) l0:=Qg mixed (Q6 QD Q5 _) (by trivial) (by trivial) (fun _=>rfl) (fun _=>rfl) (fun _=>rfl) (tl0▸QB.nil) Qe
def E0:Env:=⟨ty,QQ cl,JL [(0,l0)],none⟩
def m(x:gX):Option fY:=Q2 (F26.m ⟨x.outs,x.cols⟩) fun y=>bif y !=0 then some (0,y) else Q2 (iter s0 ⟨0,-1,x.outs2,(↑x.outs2.length:Int),0,x.outs,x.cols⟩) fun s=>JK s (fun y=>Q2 (F29.m ⟨y.cols,y.set⟩) fun y_1=>bif decide (0≤IntKind.i64.wrap (y_1+1))&&decide (IntKind.i64.wrap (y_1+1)≤(↑y.cols.length:Int))||!!decide (y_1<0) then Q2 (bif !decide (y_1<0) then F30.m ⟨List.take (y.cols.length - (IntKind.i64.wrap (y_1+1)).toNat) (List.drop (IntKind.i64.wrap (y_1+1)).toNat y.cols),y.set⟩ else some false) fun y=>bif bif decide (y_1<0) then true else y then some (0,9) else some (y_1,0) else none) fun z=>some (z.r,z.e)
theorem QT(x:gX):exec E0 54 C18 0 (QX 0 (g.A x)) (g.H x) (finish 0 ty [.tmp 4,.tmp 5] f)=m x:=by kernel_rfl
theorem tl:QI C18 0=[(0,C18.Q3 0)]:=by kernel_rfl
theorem known:QS Try.prog 18 g f m:=
 QC mixed (Q6 QD Q5 _) s18 rfl rfl tl (QB.cons rfl Qf QB.nil) (fun _ _=>⟨rfl,rfl⟩) (fun _ _=>⟨rfl,rfl⟩) QT
def con:Con:=conF g f m default
theorem Q4:QU Try.prog 18 con:=conF_ok known (fun _=>rfl) (fun _=>rfl)
end F18
end Go.Proofs.Ytfcbahfdgopgfaa
namespace Go.Proofs.Ytfcbahfdgopgfaa
open Go.Abs
set_option maxRecDepth 100000
def c23:Con:=Zm F23.g F23.f F23.m default
theorem c23_ok:QU Try.prog 23 c23:=XT F23.known (fun _=>rfl) (fun _=>rfl)
namespace F24o
structure gX where
 outs:Int
 cols_lo:Nat
 cols_len:Nat
 s:List (Int)
 mask:Int
 kx:List (Int)
def g:Sg gX where
 vs:=[.agg [.it .i64,.sl 0 0 1],.c (.arr (.int .u8)),.c (.it .u64)]
 h:=[.arr (.int .u64) 0]
 to:=fun a b=>⟨a.1.1,a.1.2.1.1,a.1.2.1.2,a.2.1,a.2.2.1,b.1⟩
 fa:=fun x=>((x.outs,((x.cols_lo,x.cols_len),())),(x.s,(x.mask,())))
 fh:=fun x=>(x.kx,())
abbrev fY:=List (Int)×List (Int)
def f:Ft fY where
 ord:=none
 sh:=.c (.arr (.int .u8))
 h:=[.arr (.int .u64) 0]
 to:=fun a b=>(a,b.1)
 fv:=fun y=>y.1
 fh:=fun y=>(y.2,())
def cl:List (FuncId×Con):=[(28,F28.con)]
theorem Q5:QM Try.prog cl:=⟨F28.Q4,trivial⟩
def E2:Env:=⟨ty,QQ cl,fun _=>none,none⟩
structure p1X where
 mask:Int
 out_lo:Nat
 out_len:Nat
 out_cap:Nat
 s:List (Int)
 n:Int
 i:Int
 c:Int
 v:Int
 m:Int
 o:Int
 kx:List (Int)
 outs:Int
 cols_lo:Nat
 cols_len:Nat
 xs:List (Int)
def p1:Pt p1X where
 own:=[]
 t:=⟨[(2,.c (.it .u64)),(3,.c (.ptr 1 0)),(7,.c (.slc 2 0 1)),(14,.c (.arr (.int .u8))),(15,.c (.it .i64)),(16,.c (.it .i64)),(8,.c (.it .i64)),(9,.c (.it .u8)),(25,.c (.it .i64)),(26,.c (.it .i64))],[.arr (.int .u64) 0,.st [.it .i64,.sl 0 0 1] 1 0,.arr (.int .u8) 0]⟩
 to:=fun v=>⟨v.1.1,v.1.2.2.1.1,v.1.2.2.1.2.1,v.1.2.2.1.2.2,v.1.2.2.2.1,v.1.2.2.2.2.1,v.1.2.2.2.2.2.1,v.1.2.2.2.2.2.2.1,v.1.2.2.2.2.2.2.2.1,v.1.2.2.2.2.2.2.2.2.1,v.1.2.2.2.2.2.2.2.2.2.1,v.2.1,v.2.2.1.1,v.2.2.1.2.1.1,v.2.2.1.2.1.2,v.2.2.2.1⟩
 fr:=fun x=>((x.mask,((),((x.out_lo,x.out_len,x.out_cap),(x.s,(x.n,(x.i,(x.c,(x.v,(x.m,(x.o,())))))))))),(x.kx,((x.outs,((x.cols_lo,x.cols_len),())),(x.xs,()))))
structure q1X where
 mask:Int
 out_lo:Nat
 out_len:Nat
 out_cap:Nat
 s:List (Int)
 n:Int
 i:Int
 kx:List (Int)
 outs:Int
 cols_lo:Nat
 cols_len:Nat
 xs:List (Int)
def q1:Pt q1X where
 own:=[]
 t:=⟨[(2,.c (.it .u64)),(3,.c (.ptr 1 0)),(7,.c (.slc 2 0 1)),(14,.c (.arr (.int .u8))),(15,.c (.it .i64)),(16,.c (.it .i64))],[.arr (.int .u64) 0,.st [.it .i64,.sl 0 0 1] 1 0,.arr (.int .u8) 0]⟩
 to:=fun v=>⟨v.1.1,v.1.2.2.1.1,v.1.2.2.1.2.1,v.1.2.2.1.2.2,v.1.2.2.2.1,v.1.2.2.2.2.1,v.1.2.2.2.2.2.1,v.2.1,v.2.2.1.1,v.2.2.1.2.1.1,v.2.2.1.2.1.2,v.2.2.2.1⟩
 fr:=fun x=>((x.mask,((),((x.out_lo,x.out_len,x.out_cap),(x.s,(x.n,(x.i,())))))),(x.kx,((x.outs,((x.cols_lo,x.cols_len),())),(x.xs,()))))
def s1(x:p1X):Option (p1X⊕q1X):=bif decide (x.o<x.m) then bif inR x.c x.cols_len then bif decide (x.cols_lo+x.c.toNat<x.kx.length) then Q2 (F28.m ⟨x.kx[x.cols_lo+x.c.toNat]?.getD 0,x.o⟩) fun y=>bif inR x.o x.out_len||!!!y then bif decide (x.out_lo+x.o.toNat<x.xs.length)||!!!y then bif bif !y then true else x.xs[x.out_lo+x.o.toNat]?.getD 0==2 then some (Sum.inl ⟨x.mask,x.out_lo,x.out_len,x.out_cap,x.s,x.n,x.i,x.c,x.v,x.m,IntKind.i64.wrap (x.o+1),x.kx,x.outs,x.cols_lo,x.cols_len,x.xs⟩) else bif x.v==2 then bif inR x.o x.out_len then bif decide (x.out_lo+x.o.toNat<x.xs.length) then some (Sum.inl ⟨x.mask,x.out_lo,x.out_len,x.out_cap,x.s,x.n,x.i,x.c,x.v,x.m,IntKind.i64.wrap (x.o+1),x.kx,x.outs,x.cols_lo,x.cols_len,x.xs.set (x.out_lo+x.o.toNat) 2⟩) else none else none else bif inR x.o x.out_len then bif decide (x.out_lo+x.o.toNat<x.xs.length) then bif inR x.o x.out_len then bif decide (x.out_lo+x.o.toNat<x.xs.length) then some (Sum.inl ⟨x.mask,x.out_lo,x.out_len,x.out_cap,x.s,x.n,x.i,x.c,x.v,x.m,IntKind.i64.wrap (x.o+1),x.kx,x.outs,x.cols_lo,x.cols_len,x.xs.set (x.out_lo+x.o.toNat) (IntKind.u8.wrap (↑(BitVec.ofInt 8 (x.xs[x.out_lo+x.o.toNat]?.getD 0)^^^BitVec.ofInt 8 x.v).toNat:Int))⟩) else none else none else none else none else none else none else none else none else some (Sum.inr ⟨x.mask,x.out_lo,x.out_len,x.out_cap,x.s,x.n,x.i,x.kx,x.outs,x.cols_lo,x.cols_len,x.xs⟩)
theorem Jz(x:p1X):exec E2 61 (C24.Q3 1) 2 (p1.R x) (p1.H x) (Qt 1 p1 (.exit 2) q1)=s1 x:=by kernel_rfl
def l1:QN:=Qu 1 p1 (.exit 2) q1 s1
theorem tl1:QI (C24.Q3 1) 2=[]:=by kernel_rfl
theorem X1  :QG Try.prog 61 none 1 (C24.Q3 1) l1:=QO mixed (Q6 QD Q5 _) (by trivial) (fun _=>rfl) (fun _=>rfl) (tl1▸QB.nil) Jz
def E1:Env:=⟨ty,QQ cl,JL [(1,l1)],none⟩
structure p0X where
 mask:Int
 out_lo:Nat
 out_len:Nat
 out_cap:Nat
 s:List (Int)
 n:Int
 i:Int
 kx:List (Int)
 outs:Int
 cols_lo:Nat
 cols_len:Nat
 xs:List (Int)
def p0:Pt p0X where
 own:=[]
 t:=⟨[(2,.c (.it .u64)),(3,.c (.ptr 1 0)),(7,.c (.slc 2 0 1)),(14,.c (.arr (.int .u8))),(15,.c (.it .i64)),(16,.c (.it .i64))],[.arr (.int .u64) 0,.st [.it .i64,.sl 0 0 1] 1 0,.arr (.int .u8) 0]⟩
 to:=fun v=>⟨v.1.1,v.1.2.2.1.1,v.1.2.2.1.2.1,v.1.2.2.1.2.2,v.1.2.2.2.1,v.1.2.2.2.2.1,v.1.2.2.2.2.2.1,v.2.1,v.2.2.1.1,v.2.2.1.2.1.1,v.2.2.1.2.1.2,v.2.2.2.1⟩
 fr:=fun x=>((x.mask,((),((x.out_lo,x.out_len,x.out_cap),(x.s,(x.n,(x.i,())))))),(x.kx,((x.outs,((x.cols_lo,x.cols_len),())),(x.xs,()))))
structure q0X where
 out_lo:Nat
 out_len:Nat
 out_cap:Nat
 kx:List (Int)
 outs:Int
 cols_lo:Nat
 cols_len:Nat
 xs:List (Int)
def q0:Pt q0X where
 own:=[]
 t:=⟨[(7,.c (.slc 2 0 1))],[.arr (.int .u64) 0,.st [.it .i64,.sl 0 0 1] 1 0,.arr (.int .u8) 0]⟩
 to:=fun v=>⟨v.1.1.1,v.1.1.2.1,v.1.1.2.2,v.2.1,v.2.2.1.1,v.2.2.1.2.1.1,v.2.2.1.2.1.2,v.2.2.2.1⟩
 fr:=fun x=>(((x.out_lo,x.out_len,x.out_cap),()),(x.kx,((x.outs,((x.cols_lo,x.cols_len),())),(x.xs,()))))
def s0(x:p0X):Option (p0X⊕q0X):=bif decide (x.i<x.n) then bif inR x.i x.s.length then Q2 (F28.m ⟨x.mask,x.i⟩) fun y=>bif y then some (Sum.inl ⟨x.mask,x.out_lo,x.out_len,x.out_cap,x.s,x.n,IntKind.i64.wrap (x.i+1),x.kx,x.outs,x.cols_lo,x.cols_len,x.xs⟩) else Q2 (iter s1 ⟨x.mask,x.out_lo,x.out_len,x.out_cap,x.s,x.n,x.i,x.i,x.s[x.i.toNat]?.getD 0,(↑x.out_len:Int),0,x.kx,x.outs,x.cols_lo,x.cols_len,x.xs⟩) fun y=>some (Sum.inl ⟨y.mask,y.out_lo,y.out_len,y.out_cap,y.s,y.n,IntKind.i64.wrap (y.i+1),y.kx,y.outs,y.cols_lo,y.cols_len,y.xs⟩) else none else some (Sum.inr ⟨x.out_lo,x.out_len,x.out_cap,x.kx,x.outs,x.cols_lo,x.cols_len,x.xs⟩)
theorem Qe(x:p0X):exec E1 61 (C24.Q3 0) 1 (p0.R x) (p0.H x) (Qt 1 p0 (.exit 0) q0)=s0 x:=by kernel_rfl
def l0:QN:=Qu 1 p0 (.exit 0) q0 s0
theorem tl0:QI (C24.Q3 0) 1=[(1,C24.Q3 1)]:=by kernel_rfl
theorem Qf  :QG Try.prog 61 none 1 (C24.Q3 0) l0:=QO mixed (Q6 QD Q5 _) (by trivial) (fun _=>rfl) (fun _=>rfl) (tl0▸(QB.cons rfl X1 QB.nil)) Qe
def E0:Env:=⟨ty,QQ cl,JL [(0,l0),(1,l1)],none⟩
def m(x:gX):Option fY:=bif decide (0≤x.outs)&&decide (x.outs≤x.outs)&&decide (x.outs*(↑1:Int)≤281474976710656)&&decide (x.outs≤9223372036854775807) then Q2 (iter s0 ⟨x.mask,0,x.outs.toNat,x.outs.toNat,x.s,(↑x.s.length:Int),0,x.kx,x.outs,x.cols_lo,x.cols_len,List.replicate x.outs.toNat (0:Int)⟩) fun y=>bif leB (y.out_lo+y.out_len) y.xs.length&&true&&true then some (List.take y.out_len (List.drop y.out_lo y.xs),y.kx) else none else none
theorem QT(x:gX):exec E0 61 C24 0 (QX 0 (g.A x)) (g.H x) (finish 1 ty [.tmp 6] f)=m x:=by kernel_rfl
theorem tl:QI C24 0=[(0,C24.Q3 0)]:=by kernel_rfl
theorem known:QS Try.prog 24 g f m:=
 QC mixed (Q6 QD Q5 _) s24 rfl rfl tl (QB.cons rfl Qf QB.nil) (fun _ _=>⟨rfl,rfl⟩) (fun _ _=>⟨rfl,rfl⟩) QT
theorem k1{z:p1X}{y:q1X}(h:iter s1 z=some y):y.kx=z.kx:=by
 refine UK (fun u=>u.kx=z.kx) (fun r=>r.kx=z.kx) (fun u r hu hr=> ?_) rfl h
 unfold s1 at hr
 rcases cond_some hr with ⟨_,hr⟩|⟨_,hr⟩
 ·rcases cond_some hr with ⟨_,hr⟩|⟨_,hr⟩
  ·rcases cond_some hr with ⟨_,hr⟩|⟨_,hr⟩
   ·obtain⟨b,_,hr⟩:=Js hr
    rcases cond_some hr with ⟨_,hr⟩|⟨_,hr⟩
    ·rcases cond_some hr with ⟨_,hr⟩|⟨_,hr⟩
     ·rcases cond_some hr with ⟨_,hr⟩|⟨_,hr⟩
      ·cases hr;exact hu
      ·rcases cond_some hr with ⟨_,hr⟩|⟨_,hr⟩
       ·rcases cond_some hr with ⟨_,hr⟩|⟨_,hr⟩
        ·rcases cond_some hr with ⟨_,hr⟩|⟨_,hr⟩
         ·cases hr;exact hu
         ·cases hr
        ·cases hr
       ·rcases cond_some hr with ⟨_,hr⟩|⟨_,hr⟩
        ·rcases cond_some hr with ⟨_,hr⟩|⟨_,hr⟩
         ·rcases cond_some hr with ⟨_,hr⟩|⟨_,hr⟩
          ·rcases cond_some hr with ⟨_,hr⟩|⟨_,hr⟩
           ·cases hr;exact hu
           ·cases hr
          ·cases hr
         ·cases hr
        ·cases hr
     ·cases hr
    ·cases hr
   ·cases hr
  ·cases hr
 ·cases hr;exact hu
theorem k0{z:p0X}{y:q0X}(h:iter s0 z=some y):y.kx=z.kx:=by
 refine UK (fun u=>u.kx=z.kx) (fun r=>r.kx=z.kx) (fun u r hu hr=> ?_) rfl h
 unfold s0 at hr
 rcases cond_some hr with ⟨_,hr⟩|⟨_,hr⟩
 ·rcases cond_some hr with ⟨_,hr⟩|⟨_,hr⟩
  ·obtain⟨b,_,hr⟩:=Js hr
   rcases cond_some hr with ⟨_,hr⟩|⟨_,hr⟩
   ·cases hr;exact hu
   ·obtain⟨v,h1,hr⟩:=Js hr
    have:=k1 h1
    cases hr;exact this.trans hu
  ·cases hr
 ·cases hr;exact hu
theorem hm{x:gX}{y:fY}(h:m x=some y):y.2=x.kx:=by
 unfold m at h
 rcases cond_some h with ⟨_,h⟩|⟨_,h⟩
 ·obtain⟨v,h1,h⟩:=Js h
  have:=k0 h1
  rcases cond_some h with ⟨_,h⟩|⟨_,h⟩
  ·cases h;exact this
  ·cases h
 ·cases h
theorem hh{x:gX}{y:fY}(h:m x=some y):f.H y=g.H x:=by
 show [SO.arr (.int .u64) y.2 0]=[SO.arr (.int .u64) x.kx 0]
 rw[hm h]
def con:Con:=conR g [.arg 0 1] f m default
theorem Q4:QU Try.prog 24 con:=V7 known (fun _=>rfl) (fun _ _ h=>by exact hh h)
end F24o
namespace F12o
structure gX where
 outs:Int
 cols_lo:Nat
 cols_len:Nat
 s:List (Int)
 mask:Int
 kx:List (Int)
def g:Sg gX where
 vs:=[.agg [.it .i64,.sl 0 0 1],.c (.arr (.int .u8)),.c (.it .u64)]
 h:=[.arr (.int .u64) 0]
 to:=fun a b=>⟨a.1.1,a.1.2.1.1,a.1.2.1.2,a.2.1,a.2.2.1,b.1⟩
 fa:=fun x=>((x.outs,((x.cols_lo,x.cols_len),())),(x.s,(x.mask,())))
 fh:=fun x=>(x.kx,())
abbrev fY:=List (Int)×Int×List (Int)
def f:Ft fY where
 ord:=none
 sh:=.tup [.inl (.arr (.int .u8)),.inl (.it .i64)]
 h:=[.arr (.int .u64) 0]
 to:=fun a b=>(a.1,a.2.1,b.1)
 fv:=fun y=>(y.1,(y.2.1,()))
 fh:=fun y=>(y.2.2,())
def cl:List (FuncId×Con):=[(23,c23),(24,F24o.con)]
theorem Q5:QM Try.prog cl:=⟨c23_ok,F24o.Q4,trivial⟩
def E0:Env:=⟨ty,QQ cl,fun _=>none,none⟩
def m(x:gX):Option fY:=Q2 (bif leB (x.cols_lo+x.cols_len) x.kx.length&&true&&true then F23.m ⟨x.outs,List.take x.cols_len (List.drop x.cols_lo x.kx),x.mask,[x.s]⟩ else none) fun y=>bif y !=0 then some ([],y,x.kx) else Q2 (F24o.m ⟨x.outs,x.cols_lo,x.cols_len,x.s,x.mask,x.kx⟩) fun y=>some (y.1,0,x.kx)
theorem QT(x:gX):exec E0 21 C12 0 (QX 0 (g.A x)) (g.H x) (finish 1 ty [.tmp 6,.tmp 7] f)=m x:=by kernel_rfl
theorem tl:QI C12 0=[]:=by kernel_rfl
theorem known:QS Try.prog 12 g f m:=
 QC mixed (Q6 QD Q5 _) s12 rfl rfl tl QB.nil (fun _ _=>⟨rfl,rfl⟩) (fun _ _=>⟨rfl,rfl⟩) QT
def con:Con:=conG g [.arg 0 1] f m default
theorem Q4:QU Try.prog 12 con:=V8 known
end F12o
namespace F13k
structure gX where
 outs:Int
 cols_lo:Nat
 cols_len:Nat
 good:List (Int)
 bad:List (Int)
 mask:Int
 kx:List (Int)
def g:Sg gX where
 vs:=[.agg [.it .i64,.sl 0 0 1],.c (.arr (.int .u8)),.c (.arr (.int .u8)),.c (.it .u64)]
 h:=[.arr (.int .u64) 0]
 to:=fun a b=>⟨a.1.1,a.1.2.1.1,a.1.2.1.2,a.2.1,a.2.2.1,a.2.2.2.1,b.1⟩
 fa:=fun x=>((x.outs,((x.cols_lo,x.cols_len),())),(x.good,(x.bad,(x.mask,()))))
 fh:=fun x=>(x.kx,())
abbrev fY:=List (Int)×Int×List (Int)
def f:Ft fY where
 ord:=none
 sh:=.tup [.inl (.arr (.int .i64)),.inl (.it .i64)]
 h:=[.arr (.int .u64) 0]
 to:=fun a b=>(a.1,a.2.1,b.1)
 fv:=fun y=>(y.1,(y.2.1,()))
 fh:=fun y=>(y.2.2,())
def cl:List (FuncId×Con):=[(23,c23),(24,F24o.con),(25,F25.con)]
theorem Q5:QM Try.prog cl:=⟨c23_ok,F24o.Q4,F25.Q4,trivial⟩
def E1:Env:=⟨ty,QQ cl,fun _=>none,none⟩
structure p0X where
 out_lo:Nat
 out_len:Nat
 x:List (Int)
 y:List (Int)
 n:Int
 i:Int
 kx:List (Int)
 outs:Int
 cols_lo:Nat
 cols_len:Nat
 xs:List (Int)
def p0:Pt p0X where
 own:=[.reg 11 (.int .i64)]
 t:=⟨[(4,.c (.ptr 1 0)),(11,.c (.sl 6 0 1)),(12,.c (.arr (.int .u8))),(13,.c (.arr (.int .u8))),(33,.c (.it .i64)),(34,.c (.it .i64))],[.arr (.int .u64) 0,.st [.it .i64,.sl 0 0 1] 1 0,.st [.junk] 1 0,.st [.junk] 1 0,.st [.junk] 1 0,.st [.junk] 1 0,.arr (.int .i64) 0]⟩
 to:=fun v=>⟨v.1.2.1.1,v.1.2.1.2,v.1.2.2.1,v.1.2.2.2.1,v.1.2.2.2.2.1,v.1.2.2.2.2.2.1,v.2.1,v.2.2.1.1,v.2.2.1.2.1.1,v.2.2.1.2.1.2,v.2.2.2.2.2.2.2.1⟩
 fr:=fun x=>(((),((x.out_lo,x.out_len),(x.x,(x.y,(x.n,(x.i,())))))),(x.kx,((x.outs,((x.cols_lo,x.cols_len),())),(((),()),(((),()),(((),()),(((),()),(x.xs,()))))))))
structure q0X where
 out_lo:Nat
 out_len:Nat
 kx:List (Int)
 outs:Int
 cols_lo:Nat
 cols_len:Nat
 xs:List (Int)
def q0:Pt q0X where
 own:=[]
 t:=⟨[(11,.c (.sl 6 0 1))],[.arr (.int .u64) 0,.st [.it .i64,.sl 0 0 1] 1 0,.st [.junk] 1 0,.st [.junk] 1 0,.st [.junk] 1 0,.st [.junk] 1 0,.arr (.int .i64) 0]⟩
 to:=fun v=>⟨v.1.1.1,v.1.1.2,v.2.1,v.2.2.1.1,v.2.2.1.2.1.1,v.2.2.1.2.1.2,v.2.2.2.2.2.2.2.1⟩
 fr:=fun x=>(((x.out_lo,x.out_len),()),(x.kx,((x.outs,((x.cols_lo,x.cols_len),())),(((),()),(((),()),(((),()),(((),()),(x.xs,()))))))))
def s0(x:p0X):Option (p0X⊕q0X):=bif decide (x.i<x.n) then bif inR x.i x.x.length then bif inR x.i x.y.length then bif IntKind.u8.wrap (x.x[x.i.toNat]?.getD 0+x.y[x.i.toNat]?.getD 0)==1 then bif eqN x.out_lo 0&&eqN x.xs.length x.out_len&&QP (x.out_len+1) 8 then some (Sum.inl ⟨0,x.out_len+1,x.x,x.y,x.n,IntKind.i64.wrap (x.i+1),x.kx,x.outs,x.cols_lo,x.cols_len,x.xs++[x.i]⟩) else none else some (Sum.inl ⟨x.out_lo,x.out_len,x.x,x.y,x.n,IntKind.i64.wrap (x.i+1),x.kx,x.outs,x.cols_lo,x.cols_len,x.xs⟩) else none else none else some (Sum.inr ⟨x.out_lo,x.out_len,x.kx,x.outs,x.cols_lo,x.cols_len,x.xs⟩)
theorem Qe(x:p0X):exec E1 54 (C13.Q3 0) 1 (p0.R x) (p0.H x) (Qt 1 p0 (.exit 0) q0)=s0 x:=by kernel_rfl
def l0:QN:=Qu 1 p0 (.exit 0) q0 s0
theorem tl0:QI (C13.Q3 0) 1=[]:=by kernel_rfl
theorem Qf  :QG Try.prog 54 none 1 (C13.Q3 0) l0:=QO mixed (Q6 QD Q5 _) (by trivial) (fun _=>rfl) (fun _=>rfl) (tl0▸QB.nil) Qe
def E0:Env:=⟨ty,QQ cl,JL [(0,l0)],none⟩
def m(x:gX):Option fY:=Q2 (bif leB (x.cols_lo+x.cols_len) x.kx.length&&true&&true then F23.m ⟨x.outs,List.take x.cols_len (List.drop x.cols_lo x.kx),x.mask,[x.good,x.bad]⟩ else none) fun y=>bif y !=0 then some ([],y,x.kx) else Q2 (F24o.m ⟨x.outs,x.cols_lo,x.cols_len,x.good,x.mask,x.kx⟩) fun y=>Q2 (F24o.m ⟨x.outs,x.cols_lo,x.cols_len,x.bad,x.mask,x.kx⟩) fun y_1=>Q2 (iter s0 ⟨0,0,y.1,y_1.1,x.outs,0,x.kx,x.outs,x.cols_lo,x.cols_len,[]⟩) fun y=>Q2 (F25.m ⟨y.out_lo,y.out_len,y.xs⟩) fun y_2=>bif leB (y_2.1+y_2.2.1) y_2.2.2.2.length&&true&&true&&true then some (List.take y_2.2.1 (List.drop y_2.1 y_2.2.2.2),0,y.kx) else none
theorem QT(x:gX):exec E0 54 C13 0 (QX 0 (g.A x)) (g.H x) (finish 1 ty [.tmp 8,.tmp 9] f)=m x:=by kernel_rfl
theorem tl:QI C13 0=[(0,C13.Q3 0)]:=by kernel_rfl
theorem known:QS Try.prog 13 g f m:=
 QC mixed (Q6 QD Q5 _) s13 rfl rfl tl (QB.cons rfl Qf QB.nil) (fun _ _=>⟨rfl,rfl⟩) (fun _ _=>⟨rfl,rfl⟩) QT
def con:Con:=conG g [.arg 0 1] f m default
theorem Q4:QU Try.prog 13 con:=V8 known
end F13k
end Go.Proofs.Ytfcbahfdgopgfaa
namespace Go.Proofs.Ytfcbahfdgopgfaa
open Go.Abs
namespace F9
theorem run_eq:checkR Try.prog tab 200 20 9 []=some (aB true):=by kernel_rfl
theorem ok0:Ja Try.prog 9 [] [] fun u τ=>u=aB true∧τ=[]:=checkR_ok mixed tab_ok run_eq
theorem ok(σ:Q0):Zr Try.prog 9 [] σ [] (aB true):=const_any rfl rfl ok0
def con:Con where
 X:=Unit
 Y:=Unit
 dec:=fun l _=>match l with|[]=>some ()|_=>none
 run:=fun _=>some ()
 inh:=()
 val:=fun _ _ _=>.c (.bo true)
 heap:=fun _ _ σ=>σ
 rd:=fun _=>some []
theorem Q4:QU Try.prog 9 con where
 ok:=fun l σ x y h _=>by
  cases l with
  |nil=>exact(ok _ _ (fun _ _=>agC.refl _ _)).mono fun v τ ⟨e1,e2⟩=>⟨by rw[e1];exact WV.rfl',by rw[e2];exact WH.rfl'⟩
  |cons _ _=>cases h
 rd:=fun l σ x y rs h hrs=>by
  cases l with
  |nil=>
   refine⟨rfl,fun _=> ?_⟩
   cases hrs
   exact ok _
  |cons _ _=>cases h
end F9
end Go.Proofs.Ytfcbahfdgopgfaa
namespace Go.Proofs.Ytfcbahfdgopgfaa
open Go.Abs
set_option maxRecDepth 100000
def c17:Con:=Zm F17.g F17.f F17.m default
theorem c17_ok:QU Try.prog 17 c17:=XT F17.known (fun _=>rfl) (fun _=>rfl)
def c26:Con:=Zm F26.g F26.f F26.m default
theorem c26_ok:QU Try.prog 26 c26:=XT F26.known (fun _=>rfl) (fun _=>rfl)
namespace F22
structure gX where
 outs:Int
 cols:List (Int)
 chain:Int
 set:List (Int)
 good:List (Int)
 bad:List (Int)
 mask:Int
def g:Sg gX where
 vs:=[.agg [.it .i64,.arr (.int .u64),.it .i64,.arr (.int .i64)],.agg [.arr (.int .u8),.arr (.int .u8),.it .u64]]
 h:=[]
 to:=fun a b=>⟨a.1.1,a.1.2.1,a.1.2.2.1,a.1.2.2.2.1,a.2.1.1,a.2.1.2.1,a.2.1.2.2.1⟩
 fa:=fun x=>((x.outs,(x.cols,(x.chain,(x.set,())))),((x.good,(x.bad,(x.mask,()))),()))
 fh:=fun x=>()
abbrev fY:=Bool
def f:Ft fY where
 ord:=none
 sh:=.c (.bo)
 h:=[]
 to:=fun a b=>(a)
 fv:=fun y=>y
 fh:=fun y=>()
def cl:List (FuncId×Con):=[(9,F9.con),(12,F12o.con),(13,F13k.con),(14,F14.con),(17,c17),(18,F18.con),(26,c26)]
theorem Q5:QM Try.prog cl:=⟨F9.Q4,F12o.Q4,F13k.Q4,F14.Q4,c17_ok,F18.Q4,c26_ok,trivial⟩
def E4:Env:=⟨ty,QQ cl,fun _=>none,none⟩
structure p3X where
 chk:Int
 a:List (Int)
 b:List (Int)
 msk:Int
 one:Int
 two:Int
 tol:Int
 loc:Int
 last:Int
 i:Int
 outs:Int
 cols:List (Int)
 chain:Int
 set:List (Int)
 good:List (Int)
 bad:List (Int)
 mask:Int
 kx:List (Int)
 ko:Int
 kc_lo:Nat
 kc_len:Nat
def p3:Pt p3X where
 own:=[]
 t:=⟨[(2,.c (.ptr 0 0)),(3,.c (.ptr 1 0)),(5,.c (.ptr 3 0)),(7,.c (.it .i64)),(9,.c (.arr (.int .u8))),(10,.c (.arr (.int .u8))),(13,.c (.it .i64)),(17,.c (.it .i64)),(18,.c (.it .i64)),(19,.c (.it .i64)),(20,.c (.it .i64)),(21,.c (.it .i64)),(22,.c (.it .i64))],[.st [.it .i64,.arr (.int .u64),.it .i64,.arr (.int .i64)] 1 0,.st [.arr (.int .u8),.arr (.int .u8),.it .u64] 1 0,.arr (.int .u64) 0,.st [.it .i64,.sl 2 0 1] 1 0]⟩
 to:=fun v=>⟨v.1.2.2.2.1,v.1.2.2.2.2.1,v.1.2.2.2.2.2.1,v.1.2.2.2.2.2.2.1,v.1.2.2.2.2.2.2.2.1,v.1.2.2.2.2.2.2.2.2.1,v.1.2.2.2.2.2.2.2.2.2.1,v.1.2.2.2.2.2.2.2.2.2.2.1,v.1.2.2.2.2.2.2.2.2.2.2.2.1,v.1.2.2.2.2.2.2.2.2.2.2.2.2.1,v.2.1.1,v.2.1.2.1,v.2.1.2.2.1,v.2.1.2.2.2.1,v.2.2.1.1,v.2.2.1.2.1,v.2.2.1.2.2.1,v.2.2.2.1,v.2.2.2.2.1.1,v.2.2.2.2.1.2.1.1,v.2.2.2.2.1.2.1.2⟩
 fr:=fun x=>(((),((),((),(x.chk,(x.a,(x.b,(x.msk,(x.one,(x.two,(x.tol,(x.loc,(x.last,(x.i,()))))))))))))),((x.outs,(x.cols,(x.chain,(x.set,())))),((x.good,(x.bad,(x.mask,()))),(x.kx,((x.ko,((x.kc_lo,x.kc_len),())),())))))
structure q3X where
 chk:Int
 a:List (Int)
 b:List (Int)
 msk:Int
 one:Int
 two:Int
 tol:Int
 loc:Int
 outs:Int
 cols:List (Int)
 chain:Int
 set:List (Int)
 good:List (Int)
 bad:List (Int)
 mask:Int
 kx:List (Int)
 ko:Int
 kc_lo:Nat
 kc_len:Nat
def q3:Pt q3X where
 own:=[]
 t:=⟨[(2,.c (.ptr 0 0)),(3,.c (.ptr 1 0)),(5,.c (.ptr 3 0)),(7,.c (.it .i64)),(9,.c (.arr (.int .u8))),(10,.c (.arr (.int .u8))),(13,.c (.it .i64)),(17,.c (.it .i64)),(18,.c (.it .i64)),(19,.c (.it .i64)),(20,.c (.it .i64))],[.st [.it .i64,.arr (.int .u64),.it .i64,.arr (.int .i64)] 1 0,.st [.arr (.int .u8),.arr (.int .u8),.it .u64] 1 0,.arr (.int .u64) 0,.st [.it .i64,.sl 2 0 1] 1 0]⟩
 to:=fun v=>⟨v.1.2.2.2.1,v.1.2.2.2.2.1,v.1.2.2.2.2.2.1,v.1.2.2.2.2.2.2.1,v.1.2.2.2.2.2.2.2.1,v.1.2.2.2.2.2.2.2.2.1,v.1.2.2.2.2.2.2.2.2.2.1,v.1.2.2.2.2.2.2.2.2.2.2.1,v.2.1.1,v.2.1.2.1,v.2.1.2.2.1,v.2.1.2.2.2.1,v.2.2.1.1,v.2.2.1.2.1,v.2.2.1.2.2.1,v.2.2.2.1,v.2.2.2.2.1.1,v.2.2.2.2.1.2.1.1,v.2.2.2.2.1.2.1.2⟩
 fr:=fun x=>(((),((),((),(x.chk,(x.a,(x.b,(x.msk,(x.one,(x.two,(x.tol,(x.loc,()))))))))))),((x.outs,(x.cols,(x.chain,(x.set,())))),((x.good,(x.bad,(x.mask,()))),(x.kx,((x.ko,((x.kc_lo,x.kc_len),())),())))))
def s3(x:p3X):Option (p3X⊕q3X):=bif bif decide (x.i<(↑x.set.length:Int)) then x.loc==0 else false then bif inR x.i x.set.length then bif inR x.i x.set.length||!!decide (x.set[x.i.toNat]?.getD 0≤x.last) then bif inR x.i x.set.length then some (Sum.inl ⟨x.chk,x.a,x.b,x.msk,x.one,x.two,x.tol,bif bif decide (x.set[x.i.toNat]?.getD 0≤x.last) then true else decide (x.set[x.i.toNat]?.getD 0≥x.outs) then 1 else x.loc,x.set[x.i.toNat]?.getD 0,IntKind.i64.wrap (x.i+1),x.outs,x.cols,x.chain,x.set,x.good,x.bad,x.mask,x.kx,x.ko,x.kc_lo,x.kc_len⟩) else none else none else none else some (Sum.inr ⟨x.chk,x.a,x.b,x.msk,x.one,x.two,x.tol,x.loc,x.outs,x.cols,x.chain,x.set,x.good,x.bad,x.mask,x.kx,x.ko,x.kc_lo,x.kc_len⟩)
theorem s3_eq(x:p3X):exec E4 380 (C22.Q3 3) 4 (p3.R x) (p3.H x) (Qt 0 p3 (.exit 7) q3)=s3 x:=by kernel_rfl
def l3:QN:=Qu 0 p3 (.exit 7) q3 s3
theorem tl3:QI (C22.Q3 3) 4=[]:=by kernel_rfl
theorem l3_ok  :QG Try.prog 380 none 0 (C22.Q3 3) l3:=QO mixed (Q6 QD Q5 _) (by trivial) (fun _=>rfl) (fun _=>rfl) (tl3▸QB.nil) s3_eq
def E3:Env:=⟨ty,QQ cl,JL [(3,l3)],none⟩
structure p2X where
 n:Int
 chk:Int
 a:List (Int)
 b_lo:Nat
 b_len:Nat
 ba:Bool
 bb:Bool
 msk:Int
 i:Int
 outs:Int
 cols:List (Int)
 chain:Int
 set:List (Int)
 good:List (Int)
 bad:List (Int)
 mask:Int
 kx:List (Int)
 ko:Int
 kc_lo:Nat
 kc_len:Nat
 bb2:List (Int)
def p2:Pt p2X where
 own:=[.reg 10 (.int .u8)]
 t:=⟨[(2,.c (.ptr 0 0)),(3,.c (.ptr 1 0)),(5,.c (.ptr 3 0)),(6,.c (.it .i64)),(7,.c (.it .i64)),(9,.c (.arr (.int .u8))),(10,.c (.sl 4 0 1)),(11,.c (.bo)),(12,.c (.bo)),(13,.c (.it .i64)),(15,.c (.it .i64))],[.st [.it .i64,.arr (.int .u64),.it .i64,.arr (.int .i64)] 1 0,.st [.arr (.int .u8),.arr (.int .u8),.it .u64] 1 0,.arr (.int .u64) 0,.st [.it .i64,.sl 2 0 1] 1 0,.arr (.int .u8) 0]⟩
 to:=fun v=>⟨v.1.2.2.2.1,v.1.2.2.2.2.1,v.1.2.2.2.2.2.1,v.1.2.2.2.2.2.2.1.1,v.1.2.2.2.2.2.2.1.2,v.1.2.2.2.2.2.2.2.1,v.1.2.2.2.2.2.2.2.2.1,v.1.2.2.2.2.2.2.2.2.2.1,v.1.2.2.2.2.2.2.2.2.2.2.1,v.2.1.1,v.2.1.2.1,v.2.1.2.2.1,v.2.1.2.2.2.1,v.2.2.1.1,v.2.2.1.2.1,v.2.2.1.2.2.1,v.2.2.2.1,v.2.2.2.2.1.1,v.2.2.2.2.1.2.1.1,v.2.2.2.2.1.2.1.2,v.2.2.2.2.2.1⟩
 fr:=fun x=>(((),((),((),(x.n,(x.chk,(x.a,((x.b_lo,x.b_len),(x.ba,(x.bb,(x.msk,(x.i,()))))))))))),((x.outs,(x.cols,(x.chain,(x.set,())))),((x.good,(x.bad,(x.mask,()))),(x.kx,((x.ko,((x.kc_lo,x.kc_len),())),(x.bb2,()))))))
structure q2X where
 n:Int
 chk:Int
 a:List (Int)
 b:List (Int)
 ba:Bool
 bb:Bool
 msk:Int
 outs:Int
 cols:List (Int)
 chain:Int
 set:List (Int)
 good:List (Int)
 bad:List (Int)
 mask:Int
 kx:List (Int)
 ko:Int
 kc_lo:Nat
 kc_len:Nat
def q2:Pt q2X where
 own:=[]
 t:=⟨[(2,.c (.ptr 0 0)),(3,.c (.ptr 1 0)),(5,.c (.ptr 3 0)),(6,.c (.it .i64)),(7,.c (.it .i64)),(9,.c (.arr (.int .u8))),(10,.c (.arr (.int .u8))),(11,.c (.bo)),(12,.c (.bo)),(13,.c (.it .i64))],[.st [.it .i64,.arr (.int .u64),.it .i64,.arr (.int .i64)] 1 0,.st [.arr (.int .u8),.arr (.int .u8),.it .u64] 1 0,.arr (.int .u64) 0,.st [.it .i64,.sl 2 0 1] 1 0]⟩
 to:=fun v=>⟨v.1.2.2.2.1,v.1.2.2.2.2.1,v.1.2.2.2.2.2.1,v.1.2.2.2.2.2.2.1,v.1.2.2.2.2.2.2.2.1,v.1.2.2.2.2.2.2.2.2.1,v.1.2.2.2.2.2.2.2.2.2.1,v.2.1.1,v.2.1.2.1,v.2.1.2.2.1,v.2.1.2.2.2.1,v.2.2.1.1,v.2.2.1.2.1,v.2.2.1.2.2.1,v.2.2.2.1,v.2.2.2.2.1.1,v.2.2.2.2.1.2.1.1,v.2.2.2.2.1.2.1.2⟩
 fr:=fun x=>(((),((),((),(x.n,(x.chk,(x.a,(x.b,(x.ba,(x.bb,(x.msk,())))))))))),((x.outs,(x.cols,(x.chain,(x.set,())))),((x.good,(x.bad,(x.mask,()))),(x.kx,((x.ko,((x.kc_lo,x.kc_len),())),())))))
def s2(x:p2X):Option (p2X⊕q2X):=bif decide (x.i<(↑x.bad.length:Int)) then bif inR x.i x.bad.length then bif eqN x.b_lo 0&&eqN x.bb2.length x.b_len&&QP (x.b_len+1) 1 then bif inR x.i x.bad.length||!!x.bb then some (Sum.inl ⟨x.n,x.chk,x.a,0,x.b_len+1,x.ba,bif x.bb then true else decide (x.bad[x.i.toNat]?.getD 0>2),x.msk,IntKind.i64.wrap (x.i+1),x.outs,x.cols,x.chain,x.set,x.good,x.bad,x.mask,x.kx,x.ko,x.kc_lo,x.kc_len,x.bb2++[x.bad[x.i.toNat]?.getD 0]⟩) else none else none else none else bif leB (x.b_lo+x.b_len) x.bb2.length&&true&&true then some (Sum.inr ⟨x.n,x.chk,x.a,List.take x.b_len (List.drop x.b_lo x.bb2),x.ba,x.bb,x.msk,x.outs,x.cols,x.chain,x.set,x.good,x.bad,x.mask,x.kx,x.ko,x.kc_lo,x.kc_len⟩) else none
theorem WK(x:p2X):exec E3 380 (C22.Q3 2) 3 (p2.R x) (p2.H x) (Qt 0 p2 (.exit 5) q2)=s2 x:=by kernel_rfl
def l2:QN:=Qu 0 p2 (.exit 5) q2 s2
theorem tl2:QI (C22.Q3 2) 3=[]:=by kernel_rfl
theorem WY  :QG Try.prog 380 none 0 (C22.Q3 2) l2:=QO mixed (Q6 QD Q5 _) (by trivial) (fun _=>rfl) (fun _=>rfl) (tl2▸QB.nil) WK
def E2:Env:=⟨ty,QQ cl,JL [(2,l2),(3,l3)],none⟩
structure p1X where
 n:Int
 chk:Int
 a_lo:Nat
 a_len:Nat
 ba:Bool
 bb:Bool
 msk:Int
 i:Int
 outs:Int
 cols:List (Int)
 chain:Int
 set:List (Int)
 good:List (Int)
 bad:List (Int)
 mask:Int
 kx:List (Int)
 ko:Int
 kc_lo:Nat
 kc_len:Nat
 aa:List (Int)
def p1:Pt p1X where
 own:=[.reg 9 (.int .u8)]
 t:=⟨[(2,.c (.ptr 0 0)),(3,.c (.ptr 1 0)),(5,.c (.ptr 3 0)),(6,.c (.it .i64)),(7,.c (.it .i64)),(9,.c (.sl 4 0 1)),(10,.c (.nils)),(11,.c (.bo)),(12,.c (.bo)),(13,.c (.it .i64)),(14,.c (.it .i64))],[.st [.it .i64,.arr (.int .u64),.it .i64,.arr (.int .i64)] 1 0,.st [.arr (.int .u8),.arr (.int .u8),.it .u64] 1 0,.arr (.int .u64) 0,.st [.it .i64,.sl 2 0 1] 1 0,.arr (.int .u8) 0]⟩
 to:=fun v=>⟨v.1.2.2.2.1,v.1.2.2.2.2.1,v.1.2.2.2.2.2.1.1,v.1.2.2.2.2.2.1.2,v.1.2.2.2.2.2.2.2.1,v.1.2.2.2.2.2.2.2.2.1,v.1.2.2.2.2.2.2.2.2.2.1,v.1.2.2.2.2.2.2.2.2.2.2.1,v.2.1.1,v.2.1.2.1,v.2.1.2.2.1,v.2.1.2.2.2.1,v.2.2.1.1,v.2.2.1.2.1,v.2.2.1.2.2.1,v.2.2.2.1,v.2.2.2.2.1.1,v.2.2.2.2.1.2.1.1,v.2.2.2.2.1.2.1.2,v.2.2.2.2.2.1⟩
 fr:=fun x=>(((),((),((),(x.n,(x.chk,((x.a_lo,x.a_len),((),(x.ba,(x.bb,(x.msk,(x.i,()))))))))))),((x.outs,(x.cols,(x.chain,(x.set,())))),((x.good,(x.bad,(x.mask,()))),(x.kx,((x.ko,((x.kc_lo,x.kc_len),())),(x.aa,()))))))
structure q1X where
 n:Int
 chk:Int
 a:List (Int)
 ba:Bool
 bb:Bool
 msk:Int
 outs:Int
 cols:List (Int)
 chain:Int
 set:List (Int)
 good:List (Int)
 bad:List (Int)
 mask:Int
 kx:List (Int)
 ko:Int
 kc_lo:Nat
 kc_len:Nat
def q1:Pt q1X where
 own:=[]
 t:=⟨[(2,.c (.ptr 0 0)),(3,.c (.ptr 1 0)),(5,.c (.ptr 3 0)),(6,.c (.it .i64)),(7,.c (.it .i64)),(9,.c (.arr (.int .u8))),(10,.c (.nils)),(11,.c (.bo)),(12,.c (.bo)),(13,.c (.it .i64))],[.st [.it .i64,.arr (.int .u64),.it .i64,.arr (.int .i64)] 1 0,.st [.arr (.int .u8),.arr (.int .u8),.it .u64] 1 0,.arr (.int .u64) 0,.st [.it .i64,.sl 2 0 1] 1 0]⟩
 to:=fun v=>⟨v.1.2.2.2.1,v.1.2.2.2.2.1,v.1.2.2.2.2.2.1,v.1.2.2.2.2.2.2.2.1,v.1.2.2.2.2.2.2.2.2.1,v.1.2.2.2.2.2.2.2.2.2.1,v.2.1.1,v.2.1.2.1,v.2.1.2.2.1,v.2.1.2.2.2.1,v.2.2.1.1,v.2.2.1.2.1,v.2.2.1.2.2.1,v.2.2.2.1,v.2.2.2.2.1.1,v.2.2.2.2.1.2.1.1,v.2.2.2.2.1.2.1.2⟩
 fr:=fun x=>(((),((),((),(x.n,(x.chk,(x.a,((),(x.ba,(x.bb,(x.msk,())))))))))),((x.outs,(x.cols,(x.chain,(x.set,())))),((x.good,(x.bad,(x.mask,()))),(x.kx,((x.ko,((x.kc_lo,x.kc_len),())),())))))
def s1(x:p1X):Option (p1X⊕q1X):=bif decide (x.i<(↑x.good.length:Int)) then bif inR x.i x.good.length then bif eqN x.a_lo 0&&eqN x.aa.length x.a_len&&QP (x.a_len+1) 1 then bif inR x.i x.good.length||!!x.ba then some (Sum.inl ⟨x.n,x.chk,0,x.a_len+1,bif x.ba then true else decide (x.good[x.i.toNat]?.getD 0>2),x.bb,x.msk,IntKind.i64.wrap (x.i+1),x.outs,x.cols,x.chain,x.set,x.good,x.bad,x.mask,x.kx,x.ko,x.kc_lo,x.kc_len,x.aa++[x.good[x.i.toNat]?.getD 0]⟩) else none else none else none else bif leB (x.a_lo+x.a_len) x.aa.length&&true&&true then some (Sum.inr ⟨x.n,x.chk,List.take x.a_len (List.drop x.a_lo x.aa),x.ba,x.bb,x.msk,x.outs,x.cols,x.chain,x.set,x.good,x.bad,x.mask,x.kx,x.ko,x.kc_lo,x.kc_len⟩) else none
theorem Jz(x:p1X):exec E2 380 (C22.Q3 1) 2 (p1.R x) (p1.H x) (Qt 0 p1 (.exit 3) q1)=s1 x:=by kernel_rfl
def l1:QN:=Qu 0 p1 (.exit 3) q1 s1
theorem tl1:QI (C22.Q3 1) 2=[]:=by kernel_rfl
theorem X1  :QG Try.prog 380 none 0 (C22.Q3 1) l1:=QO mixed (Q6 QD Q5 _) (by trivial) (fun _=>rfl) (fun _=>rfl) (tl1▸QB.nil) Jz
def E1:Env:=⟨ty,QQ cl,JL [(1,l1),(2,l2),(3,l3)],none⟩
structure p0X where
 n:Int
 chk:Int
 i:Int
 outs:Int
 cols:List (Int)
 chain:Int
 set:List (Int)
 good:List (Int)
 bad:List (Int)
 mask:Int
 kx:List (Int)
 ko:Int
 kc_lo:Nat
 kc_len:Nat
def p0:Pt p0X where
 own:=[]
 t:=⟨[(2,.c (.ptr 0 0)),(3,.c (.ptr 1 0)),(5,.c (.ptr 3 0)),(6,.c (.it .i64)),(7,.c (.it .i64)),(8,.c (.it .i64))],[.st [.it .i64,.arr (.int .u64),.it .i64,.arr (.int .i64)] 1 0,.st [.arr (.int .u8),.arr (.int .u8),.it .u64] 1 0,.arr (.int .u64) 0,.st [.it .i64,.sl 2 0 1] 1 0]⟩
 to:=fun v=>⟨v.1.2.2.2.1,v.1.2.2.2.2.1,v.1.2.2.2.2.2.1,v.2.1.1,v.2.1.2.1,v.2.1.2.2.1,v.2.1.2.2.2.1,v.2.2.1.1,v.2.2.1.2.1,v.2.2.1.2.2.1,v.2.2.2.1,v.2.2.2.2.1.1,v.2.2.2.2.1.2.1.1,v.2.2.2.2.1.2.1.2⟩
 fr:=fun x=>(((),((),((),(x.n,(x.chk,(x.i,())))))),((x.outs,(x.cols,(x.chain,(x.set,())))),((x.good,(x.bad,(x.mask,()))),(x.kx,((x.ko,((x.kc_lo,x.kc_len),())),())))))
structure q0X where
 n:Int
 chk:Int
 outs:Int
 cols:List (Int)
 chain:Int
 set:List (Int)
 good:List (Int)
 bad:List (Int)
 mask:Int
 kx:List (Int)
 ko:Int
 kc_lo:Nat
 kc_len:Nat
def q0:Pt q0X where
 own:=[]
 t:=⟨[(2,.c (.ptr 0 0)),(3,.c (.ptr 1 0)),(5,.c (.ptr 3 0)),(6,.c (.it .i64)),(7,.c (.it .i64))],[.st [.it .i64,.arr (.int .u64),.it .i64,.arr (.int .i64)] 1 0,.st [.arr (.int .u8),.arr (.int .u8),.it .u64] 1 0,.arr (.int .u64) 0,.st [.it .i64,.sl 2 0 1] 1 0]⟩
 to:=fun v=>⟨v.1.2.2.2.1,v.1.2.2.2.2.1,v.2.1.1,v.2.1.2.1,v.2.1.2.2.1,v.2.1.2.2.2.1,v.2.2.1.1,v.2.2.1.2.1,v.2.2.1.2.2.1,v.2.2.2.1,v.2.2.2.2.1.1,v.2.2.2.2.1.2.1.1,v.2.2.2.2.1.2.1.2⟩
 fr:=fun x=>(((),((),((),(x.n,(x.chk,()))))),((x.outs,(x.cols,(x.chain,(x.set,())))),((x.good,(x.bad,(x.mask,()))),(x.kx,((x.ko,((x.kc_lo,x.kc_len),())),())))))
def s0(x:p0X):Option (p0X⊕q0X):=bif bif decide (x.i<x.n) then x.chk==0 else false then bif inR x.i x.cols.length||!decide (x.outs<64) then bif decide (0≤x.outs)||!decide (x.outs<64) then some (Sum.inl ⟨x.n,bif bif decide (x.outs<64) then decide (Int.fdiv (x.cols[x.i.toNat]?.getD 0) (2^min x.outs.toNat 64)>0) else false then 1 else x.chk,IntKind.i64.wrap (x.i+1),x.outs,x.cols,x.chain,x.set,x.good,x.bad,x.mask,x.kx,x.ko,x.kc_lo,x.kc_len⟩) else none else none else some (Sum.inr ⟨x.n,x.chk,x.outs,x.cols,x.chain,x.set,x.good,x.bad,x.mask,x.kx,x.ko,x.kc_lo,x.kc_len⟩)
theorem Qe(x:p0X):exec E1 380 (C22.Q3 0) 1 (p0.R x) (p0.H x) (Qt 0 p0 (.exit 1) q0)=s0 x:=by kernel_rfl
def l0:QN:=Qu 0 p0 (.exit 1) q0 s0
theorem tl0:QI (C22.Q3 0) 1=[]:=by kernel_rfl
theorem Qf  :QG Try.prog 380 none 0 (C22.Q3 0) l0:=QO mixed (Q6 QD Q5 _) (by trivial) (fun _=>rfl) (fun _=>rfl) (tl0▸QB.nil) Qe
def E0:Env:=⟨ty,QQ cl,JL [(0,l0),(1,l1),(2,l2),(3,l3)],none⟩
def m(x:gX):Option fY:=bif bif bif bif decide ((↑x.cols.length:Int)>70) then true else decide ((↑x.good.length:Int)>80) then true else decide ((↑x.bad.length:Int)>80) then true else decide ((↑x.set.length:Int)>70) then Q2 (some PUnit.unit) fun y=>some true else bif QP x.cols.length 8 then Q2 (iter s0 ⟨(↑x.cols.length:Int),bif decide (x.outs<0) then 1 else bif bif decide (x.outs>64) then true else decide ((↑x.cols.length:Int)>64) then 3 else 0,0,x.outs,x.cols,x.chain,x.set,x.good,x.bad,x.mask,x.cols,x.outs,0,x.cols.length⟩) fun y=>Q2 (iter s1 ⟨y.n,y.chk,0,0,false,false,bif decide ((↑y.good.length:Int)>64) then 3 else 0,0,y.outs,y.cols,y.chain,y.set,y.good,y.bad,y.mask,y.kx,y.ko,y.kc_lo,y.kc_len,[]⟩) fun y=>Q2 (iter s2 ⟨y.n,y.chk,y.a,0,0,y.ba,y.bb,y.msk,0,y.outs,y.cols,y.chain,y.set,y.good,y.bad,y.mask,y.kx,y.ko,y.kc_lo,y.kc_len,[]⟩) fun y=>bif decide (0≤y.n)||!decide (y.n<64) then Q2 (iter s3 ⟨y.chk,y.a,y.b,bif bif y.msk==0 then y.ba else false then 1 else y.msk,bif bif (bif bif y.chk==0 then (↑y.a.length:Int) !=y.n else false then 8 else y.chk)==0 then bif y.ba then true else bif decide (y.n<64) then decide (y.mask.fdiv (2^min y.n.toNat 64)>0) else false else false then 1 else bif bif y.chk==0 then (↑y.a.length:Int) !=y.n else false then 8 else y.chk,bif bif (bif bif y.chk==0 then bif (↑y.a.length:Int) !=y.n then true else (↑y.b.length:Int) !=y.n else false then 8 else y.chk)==0 then bif bif y.ba then true else y.bb then true else bif decide (y.n<64) then decide (y.mask.fdiv (2^min y.n.toNat 64)>0) else false else false then 1 else bif bif y.chk==0 then bif (↑y.a.length:Int) !=y.n then true else (↑y.b.length:Int) !=y.n else false then 8 else y.chk,bif bif y.chk==0 then bif bif decide (y.chain<0) then true else decide (y.chain≥y.n) then true else bif decide (y.n<64) then decide (y.mask.fdiv (2^min y.n.toNat 64)>0) else false else false then 1 else y.chk,y.chk,-1,0,y.outs,y.cols,y.chain,y.set,y.good,y.bad,y.mask,y.kx,y.ko,y.kc_lo,y.kc_len⟩) fun y=>Q2 (F12o.m ⟨y.ko,y.kc_lo,y.kc_len,y.a,y.mask,y.kx⟩) fun y_1=>Q2 (F13k.m ⟨y.ko,y.kc_lo,y.kc_len,y.a,y.b,y.mask,y_1.2.2⟩) fun y_2=>Q2 (F14.m ⟨y.a⟩) fun y_3=>Q2 (bif leB (y.kc_lo+y.kc_len) y_2.2.2.length&&true&&true then F17.m ⟨y.ko,List.take y.kc_len (List.drop y.kc_lo y_2.2.2),y.chain,y.mask⟩ else none) fun y_4=>Q2 (bif leB (y.kc_lo+y.kc_len) y_2.2.2.length&&true&&true then F18.m ⟨y.ko,List.take y.kc_len (List.drop y.kc_lo y_2.2.2),y.set⟩ else none) fun y_5=>Q2 (bif leB (y.kc_lo+y.kc_len) y_2.2.2.length&&true&&true then F26.m ⟨y.ko,List.take y.kc_len (List.drop y.kc_lo y_2.2.2)⟩ else none) fun y_6=>bif bif bif bif bif bif y_6 !=y.chk then true else y_1.2.1 !=y.one then true else y_2.2.1 !=y.two then true else y_3.2 !=y.msk then true else y_4.2 !=y.tol then true else !bif y_5.2==y.loc then true else bif y.loc==0 then y_5.2==9 else false then some false else Q2 (bif bif bif bif bif bif y_1.2.1==0 then true else (↑y_1.1.length:Int)==0 then bif y_2.2.1==0 then true else (↑y_2.1.length:Int)==0 else false then bif y_3.2==0 then true else y_3.1==0 else false then bif y_4.2==0 then true else !y_4.1 else false then bif y_5.2==0 then true else y_5.1==0 else false then some PUnit.unit else some PUnit.unit) fun y=>some (bif bif bif bif bif bif y_1.2.1==0 then true else (↑y_1.1.length:Int)==0 then bif y_2.2.1==0 then true else (↑y_2.1.length:Int)==0 else false then bif y_3.2==0 then true else y_3.1==0 else false then bif y_4.2==0 then true else !y_4.1 else false then bif y_5.2==0 then true else y_5.1==0 else false then true else false) else none else none
theorem QT(x:gX):exec E0 380 C22 0 (QX 0 (g.A x)) (g.H x) (finish 0 ty [.tmp 4] f)=m x:=by kernel_rfl
theorem tl:QI C22 0=[(0,C22.Q3 0),(1,C22.Q3 1),(2,C22.Q3 2),(3,C22.Q3 3)]:=by kernel_rfl
theorem known:QS Try.prog 22 g f m:=
 QC mixed (Q6 QD Q5 _) s22 rfl rfl tl (QB.cons rfl Qf (QB.cons rfl X1 (QB.cons rfl WY (QB.cons rfl l3_ok QB.nil)))) (fun _ _=>⟨rfl,rfl⟩) (fun _ _=>⟨rfl,rfl⟩) QT
end F22
end Go.Proofs.Ytfcbahfdgopgfaa
namespace Go.Proofs.Ytfcbahfdgopgfaa
open Go.Abs
set_option maxRecDepth 100000
namespace F3
structure gX where
 outs0:Int
 cols0:List (Int)
 good:List (Int)
 bad:List (Int)
 mask:Int
def g:Sg gX where
 vs:=[.agg [.it .u8,.arr (.int .u32)],.agg [.arr (.int .u8),.arr (.int .u8),.it .u64]]
 h:=[]
 to:=fun a b=>⟨a.1.1,a.1.2.1,a.2.1.1,a.2.1.2.1,a.2.1.2.2.1⟩
 fa:=fun x=>((x.outs0,(x.cols0,())),((x.good,(x.bad,(x.mask,()))),()))
 fh:=fun x=>()
abbrev fY:=Bool
def f:Ft fY where
 ord:=none
 sh:=.c (.bo)
 h:=[]
 to:=fun a b=>(a)
 fv:=fun y=>y
 fh:=fun y=>()
def cl:List (FuncId×Con):=[(9,F9.con),(10,F10.con),(11,F11.con),(12,F12.con),(13,F13.con),(14,F14.con),(15,F15.con)]
theorem Q5:QM Try.prog cl:=⟨F9.Q4,F10.Q4,F11.Q4,F12.Q4,F13.Q4,F14.Q4,F15.Q4,trivial⟩
def E2:Env:=⟨ty,QQ cl,fun _=>none,none⟩
structure p1X where
 n:Int
 a:List (Int)
 l:List (Int)
 unk:Int
 pos:Int
 c:Int
def p1:Pt p1X where
 own:=[]
 t:=⟨[(6,.c (.it .i64)),(7,.c (.arr (.int .u8))),(14,.c (.arr (.int .i64))),(16,.c (.it .u64)),(20,.c (.it .i64)),(24,.c (.it .i64))],[]⟩
 to:=fun v=>⟨v.1.1,v.1.2.1,v.1.2.2.1,v.1.2.2.2.1,v.1.2.2.2.2.1,v.1.2.2.2.2.2.1⟩
 fr:=fun x=>((x.n,(x.a,(x.l,(x.unk,(x.pos,(x.c,())))))),())
structure q1X where
 n:Int
 l:List (Int)
 unk:Int
 pos:Int
def q1:Pt q1X where
 own:=[]
 t:=⟨[(6,.c (.it .i64)),(14,.c (.arr (.int .i64))),(16,.c (.it .u64)),(20,.c (.it .i64))],[]⟩
 to:=fun v=>⟨v.1.1,v.1.2.1,v.1.2.2.1,v.1.2.2.2.1⟩
 fr:=fun x=>((x.n,(x.l,(x.unk,(x.pos,())))),())
structure z1X where
 r:Bool
def z1:Pt z1X where
 own:=[]
 t:=⟨[(4,.c (.bo))],[]⟩
 to:=fun v=>⟨v.1.1⟩
 fr:=fun x=>((x.r,()),())
def s1(x:p1X):Option (p1X⊕(q1X⊕z1X)):=bif decide (x.c<x.n) then bif decide (0≤x.c) then bif inR x.c x.a.length then bif !((x.unk.fdiv (2^min x.c.toNat 64)).tmod 2==1)==(x.a[x.c.toNat]?.getD 0==2) then some (Sum.inr (Sum.inr ⟨false⟩)) else some (Sum.inl ⟨x.n,x.a,x.l,x.unk,x.pos,IntKind.i64.wrap (x.c+1)⟩) else none else none else some (Sum.inr (Sum.inl ⟨x.n,x.l,x.unk,x.pos⟩))
theorem Jz(x:p1X):exec E2 212 (C3.Q3 1) 2 (p1.R x) (p1.H x) (JH 0 p1 (.exit 2) q1 .ret z1)=s1 x:=by kernel_rfl
def l1:QN:=JE 0 p1 (.exit 2) q1 .ret z1 s1
theorem tl1:QI (C3.Q3 1) 2=[]:=by kernel_rfl
theorem X1  :QG Try.prog 212 none 0 (C3.Q3 1) l1:=Qg mixed (Q6 QD Q5 _) (by trivial) (by trivial) (fun _=>rfl) (fun _=>rfl) (fun _=>rfl) (tl1▸QB.nil) Jz
def E1:Env:=⟨ty,QQ cl,JL [(1,l1)],none⟩
structure p0X where
 n:Int
 a:List (Int)
 b:List (Int)
 mask:Int
 p:List (Int)
 q:List (Int)
 l:List (Int)
 unk:Int
 al:List (Int)
 pos:Int
 o:Int
 outs:Int
 cols:List (Int)
def p0:Pt p0X where
 own:=[]
 t:=⟨[(5,.c (.ptr 2 0)),(6,.c (.it .i64)),(7,.c (.arr (.int .u8))),(8,.c (.arr (.int .u8))),(9,.c (.it .u64)),(10,.c (.arr (.int .u8))),(12,.c (.arr (.int .u8))),(14,.c (.arr (.int .i64))),(16,.c (.it .u64)),(18,.c (.arr (.int .u8))),(20,.c (.it .i64)),(21,.c (.it .i64))],[.st [.junk,.junk] 1 0,.st [.junk,.junk,.junk] 1 0,.st [.it .i64,.arr (.int .u64)] 1 0]⟩
 to:=fun v=>⟨v.1.2.1,v.1.2.2.1,v.1.2.2.2.1,v.1.2.2.2.2.1,v.1.2.2.2.2.2.1,v.1.2.2.2.2.2.2.1,v.1.2.2.2.2.2.2.2.1,v.1.2.2.2.2.2.2.2.2.1,v.1.2.2.2.2.2.2.2.2.2.1,v.1.2.2.2.2.2.2.2.2.2.2.1,v.1.2.2.2.2.2.2.2.2.2.2.2.1,v.2.2.2.1.1,v.2.2.2.1.2.1⟩
 fr:=fun x=>(((),(x.n,(x.a,(x.b,(x.mask,(x.p,(x.q,(x.l,(x.unk,(x.al,(x.pos,(x.o,())))))))))))),(((),((),())),(((),((),((),()))),((x.outs,(x.cols,())),()))))
structure q0X where
 n:Int
 a:List (Int)
 l:List (Int)
 unk:Int
 pos:Int
def q0:Pt q0X where
 own:=[]
 t:=⟨[(6,.c (.it .i64)),(7,.c (.arr (.int .u8))),(14,.c (.arr (.int .i64))),(16,.c (.it .u64)),(20,.c (.it .i64))],[]⟩
 to:=fun v=>⟨v.1.1,v.1.2.1,v.1.2.2.1,v.1.2.2.2.1,v.1.2.2.2.2.1⟩
 fr:=fun x=>((x.n,(x.a,(x.l,(x.unk,(x.pos,()))))),())
structure z0X where
 r:Bool
def z0:Pt z0X where
 own:=[]
 t:=⟨[(4,.c (.bo))],[]⟩
 to:=fun v=>⟨v.1.1⟩
 fr:=fun x=>((x.r,()),())
def s0(x:p0X):Option (p0X⊕(q0X⊕z0X)):=bif decide (x.o<x.outs) then Q2 (F15.m ⟨x.outs,x.cols,x.a,x.mask,x.o⟩) fun y=>Q2 (F15.m ⟨x.outs,x.cols,x.b,x.mask,x.o⟩) fun y_1=>bif inR x.o x.p.length then bif inR x.o x.q.length||!!x.p[x.o.toNat]?.getD 0 !=y then bif inR x.o x.al.length||!!bif x.p[x.o.toNat]?.getD 0 !=y then true else x.q[x.o.toNat]?.getD 0 !=y_1 then bif bif bif x.p[x.o.toNat]?.getD 0 !=y then true else x.q[x.o.toNat]?.getD 0 !=y_1 then true else x.al[x.o.toNat]?.getD 0==2 then some (Sum.inr (Sum.inr ⟨false⟩)) else bif bif bif y !=2 then y_1 !=2 else false then y !=y_1 else false then bif inR x.pos x.l.length||!!decide (x.pos≥(↑x.l.length:Int)) then bif bif decide (x.pos≥(↑x.l.length:Int)) then true else x.l[x.pos.toNat]?.getD 0 !=x.o then some (Sum.inr (Sum.inr ⟨false⟩)) else some (Sum.inl ⟨x.n,x.a,x.b,x.mask,x.p,x.q,x.l,x.unk,x.al,IntKind.i64.wrap (x.pos+1),IntKind.i64.wrap (x.o+1),x.outs,x.cols⟩) else none else some (Sum.inl ⟨x.n,x.a,x.b,x.mask,x.p,x.q,x.l,x.unk,x.al,x.pos,IntKind.i64.wrap (x.o+1),x.outs,x.cols⟩) else none else none else none else some (Sum.inr (Sum.inl ⟨x.n,x.a,x.l,x.unk,x.pos⟩))
theorem Qe(x:p0X):exec E1 212 (C3.Q3 0) 1 (p0.R x) (p0.H x) (JH 0 p0 (.exit 0) q0 .ret z0)=s0 x:=by kernel_rfl
def l0:QN:=JE 0 p0 (.exit 0) q0 .ret z0 s0
theorem tl0:QI (C3.Q3 0) 1=[]:=by kernel_rfl
theorem Qf  :QG Try.prog 212 none 0 (C3.Q3 0) l0:=Qg mixed (Q6 QD Q5 _) (by trivial) (by trivial) (fun _=>rfl) (fun _=>rfl) (fun _=>rfl) (tl0▸QB.nil) Qe
def E0:Env:=⟨ty,QQ cl,JL [(0,l0),(1,l1)],none⟩
def m(x:gX):Option fY:=bif decide ((↑x.cols0.length:Int)>12) then Q2 (some PUnit.unit) fun y=>some true else Q2 (F10.m ⟨x.outs0,x.cols0⟩) fun y=>Q2 (F11.m ⟨x.good,(↑y.2.length:Int)⟩) fun y_1=>Q2 (F11.m ⟨x.bad,(↑y.2.length:Int)⟩) fun y_2=>bif decide (0≤(↑y.2.length:Int)) then bif nz (IntKind.u64.wrap (1*2^min (↑y.2.length:Int).toNat 64)) then Q2 (F12.m ⟨y.1,y.2,y_1,x.mask.tmod (IntKind.u64.wrap (1*2^min (↑y.2.length:Int).toNat 64))⟩) fun y_3=>Q2 (F12.m ⟨y.1,y.2,y_2,x.mask.tmod (IntKind.u64.wrap (1*2^min (↑y.2.length:Int).toNat 64))⟩) fun y_4=>Q2 (F13.m ⟨y.1,y.2,y_1,y_2,x.mask.tmod (IntKind.u64.wrap (1*2^min (↑y.2.length:Int).toNat 64))⟩) fun y_5=>Q2 (F14.m ⟨y_1⟩) fun y_6=>Q2 (F12.m ⟨y.1,y.2,y_1,y_6.1⟩) fun y_7=>bif bif bif bif bif bif bif bif y_3.2 !=0 then true else y_4.2 !=0 then true else y_5.2 !=0 then true else y_6.2 !=0 then true else y_7.2 !=0 then true else (↑y_3.1.length:Int) !=y.1 then true else (↑y_4.1.length:Int) !=y.1 then true else (↑y_7.1.length:Int) !=y.1 then some false else Q2 (iter s0 ⟨(↑y.2.length:Int),y_1,y_2,x.mask.tmod (IntKind.u64.wrap (1*2^min (↑y.2.length:Int).toNat 64)),y_3.1,y_4.1,y_5.1,y_6.1,y_7.1,0,0,y.1,y.2⟩) fun s=>JK s (fun y=>Q2 (iter s1 ⟨y.n,y.a,y.l,y.unk,y.pos,0⟩) fun s=>JK s (fun y=>bif decide (0≤y.n)||!y.pos==(↑y.l.length:Int) then Q2 (bif bif y.pos==(↑y.l.length:Int) then y.unk.fdiv (2^min y.n.toNat 64)==0 else false then some PUnit.unit else some PUnit.unit) fun y_8=>some (bif bif y.pos==(↑y.l.length:Int) then y.unk.fdiv (2^min y.n.toNat 64)==0 else false then true else false) else none) fun z=>some z.r) fun z=>some z.r else none else none
theorem QT(x:gX):exec E0 212 C3 0 (QX 0 (g.A x)) (g.H x) (finish 0 ty [.tmp 4] f)=m x:=by kernel_rfl
theorem tl:QI C3 0=[(0,C3.Q3 0),(1,C3.Q3 1)]:=by kernel_rfl
theorem known:QS Try.prog 3 g f m:=
 QC mixed (Q6 QD Q5 _) s3 rfl rfl tl (QB.cons rfl Qf (QB.cons rfl X1 QB.nil)) (fun _ _=>⟨rfl,rfl⟩) (fun _ _=>⟨rfl,rfl⟩) QT
end F3
end Go.Proofs.Ytfcbahfdgopgfaa
namespace Go.Proofs.Ytfcbahfdgopgfaa
open Go.Abs
set_option maxRecDepth 100000
namespace F6
structure gX where
 outs0:Int
 cols0:List (Int)
 set:Int
 chain:Int
def g:Sg gX where
 vs:=[.agg [.it .u8,.arr (.int .u32)],.c (.it .u32),.c (.it .u8)]
 h:=[]
 to:=fun a b=>⟨a.1.1,a.1.2.1,a.2.1,a.2.2.1⟩
 fa:=fun x=>((x.outs0,(x.cols0,())),(x.set,(x.chain,())))
 fh:=fun x=>()
abbrev fY:=Bool
def f:Ft fY where
 ord:=none
 sh:=.c (.bo)
 h:=[]
 to:=fun a b=>(a)
 fv:=fun y=>y
 fh:=fun y=>()
def cl:List (FuncId×Con):=[(9,F9.con),(10,F10.con),(16,F16.con),(18,F18.con),(13,F13o.con)]
theorem Q5:QM Try.prog cl:=⟨F9.Q4,F10.Q4,F16.Q4,F18.Q4,F13o.Q4,trivial⟩
def E3:Env:=⟨ty,QQ cl,fun _=>none,none⟩
structure p2X where
 set:Int
 n:Int
 outs9:List (Int)
 pos:Int
 many:Int
 i:Int
 same:Bool
 o:Int
 outs:Int
 cols:List (Int)
def p2:Pt p2X where
 own:=[]
 t:=⟨[(1,.c (.it .u32)),(7,.c (.ptr 1 0)),(8,.c (.it .i64)),(9,.c (.arr (.int .i64))),(11,.c (.it .i64)),(12,.c (.it .i64)),(13,.c (.it .i64)),(14,.c (.bo)),(15,.c (.it .i64))],[.st [.junk,.junk] 1 0,.st [.it .i64,.arr (.int .u64)] 1 0]⟩
 to:=fun v=>⟨v.1.1,v.1.2.2.1,v.1.2.2.2.1,v.1.2.2.2.2.1,v.1.2.2.2.2.2.1,v.1.2.2.2.2.2.2.1,v.1.2.2.2.2.2.2.2.1,v.1.2.2.2.2.2.2.2.2.1,v.2.2.1.1,v.2.2.1.2.1⟩
 fr:=fun x=>((x.set,((),(x.n,(x.outs9,(x.pos,(x.many,(x.i,(x.same,(x.o,()))))))))),(((),((),())),((x.outs,(x.cols,())),())))
structure q2X where
 set:Int
 n:Int
 outs9:List (Int)
 pos:Int
 many:Int
 i:Int
 same:Bool
 outs:Int
 cols:List (Int)
def q2:Pt q2X where
 own:=[]
 t:=⟨[(1,.c (.it .u32)),(7,.c (.ptr 1 0)),(8,.c (.it .i64)),(9,.c (.arr (.int .i64))),(11,.c (.it .i64)),(12,.c (.it .i64)),(13,.c (.it .i64)),(14,.c (.bo))],[.st [.junk,.junk] 1 0,.st [.it .i64,.arr (.int .u64)] 1 0]⟩
 to:=fun v=>⟨v.1.1,v.1.2.2.1,v.1.2.2.2.1,v.1.2.2.2.2.1,v.1.2.2.2.2.2.1,v.1.2.2.2.2.2.2.1,v.1.2.2.2.2.2.2.2.1,v.2.2.1.1,v.2.2.1.2.1⟩
 fr:=fun x=>((x.set,((),(x.n,(x.outs9,(x.pos,(x.many,(x.i,(x.same,())))))))),(((),((),())),((x.outs,(x.cols,())),())))
def s2(x:p2X):Option (p2X⊕q2X):=bif decide (x.o<x.outs) then Q2 (bif x.same then F16.m ⟨x.outs,x.cols,x.i,x.o⟩ else some false) fun y=>bif decide (0≤x.o)||!x.same then some (Sum.inl ⟨x.set,x.n,x.outs9,x.pos,x.many,x.i,bif x.same then y==((x.set.fdiv (2^min x.o.toNat 32)).tmod 2==1) else false,IntKind.i64.wrap (x.o+1),x.outs,x.cols⟩) else none else some (Sum.inr ⟨x.set,x.n,x.outs9,x.pos,x.many,x.i,x.same,x.outs,x.cols⟩)
theorem WK(x:p2X):exec E3 153 (C6.Q3 2) 3 (p2.R x) (p2.H x) (Qt 0 p2 (.exit 4) q2)=s2 x:=by kernel_rfl
def l2:QN:=Qu 0 p2 (.exit 4) q2 s2
theorem tl2:QI (C6.Q3 2) 3=[]:=by kernel_rfl
theorem WY  :QG Try.prog 153 none 0 (C6.Q3 2) l2:=QO mixed (Q6 QD Q5 _) (by trivial) (fun _=>rfl) (fun _=>rfl) (tl2▸QB.nil) WK
def E2:Env:=⟨ty,QQ cl,JL [(2,l2)],none⟩
structure p1X where
 set:Int
 n:Int
 outs9:List (Int)
 pos:Int
 many:Int
 i:Int
 outs:Int
 cols:List (Int)
def p1:Pt p1X where
 own:=[]
 t:=⟨[(1,.c (.it .u32)),(7,.c (.ptr 1 0)),(8,.c (.it .i64)),(9,.c (.arr (.int .i64))),(11,.c (.it .i64)),(12,.c (.it .i64)),(13,.c (.it .i64))],[.st [.junk,.junk] 1 0,.st [.it .i64,.arr (.int .u64)] 1 0]⟩
 to:=fun v=>⟨v.1.1,v.1.2.2.1,v.1.2.2.2.1,v.1.2.2.2.2.1,v.1.2.2.2.2.2.1,v.1.2.2.2.2.2.2.1,v.2.2.1.1,v.2.2.1.2.1⟩
 fr:=fun x=>((x.set,((),(x.n,(x.outs9,(x.pos,(x.many,(x.i,()))))))),(((),((),())),((x.outs,(x.cols,())),())))
structure q1X where
 n:Int
 outs9:List (Int)
 pos:Int
 many:Int
 outs:Int
 cols:List (Int)
def q1:Pt q1X where
 own:=[]
 t:=⟨[(7,.c (.ptr 1 0)),(8,.c (.it .i64)),(9,.c (.arr (.int .i64))),(11,.c (.it .i64)),(12,.c (.it .i64))],[.st [.junk,.junk] 1 0,.st [.it .i64,.arr (.int .u64)] 1 0]⟩
 to:=fun v=>⟨v.1.2.1,v.1.2.2.1,v.1.2.2.2.1,v.1.2.2.2.2.1,v.2.2.1.1,v.2.2.1.2.1⟩
 fr:=fun x=>(((),(x.n,(x.outs9,(x.pos,(x.many,()))))),(((),((),())),((x.outs,(x.cols,())),())))
def s1(x:p1X):Option (p1X⊕q1X):=bif decide (x.i<x.n) then Q2 (iter s2 ⟨x.set,x.n,x.outs9,x.pos,x.many,x.i,true,0,x.outs,x.cols⟩) fun y=>some (Sum.inl ⟨y.set,y.n,y.outs9,bif y.same then y.i else y.pos,bif y.same then IntKind.i64.wrap (y.many+1) else y.many,IntKind.i64.wrap (y.i+1),y.outs,y.cols⟩) else some (Sum.inr ⟨x.n,x.outs9,x.pos,x.many,x.outs,x.cols⟩)
theorem Jz(x:p1X):exec E2 153 (C6.Q3 1) 2 (p1.R x) (p1.H x) (Qt 0 p1 (.exit 2) q1)=s1 x:=by kernel_rfl
def l1:QN:=Qu 0 p1 (.exit 2) q1 s1
theorem tl1:QI (C6.Q3 1) 2=[(2,C6.Q3 2)]:=by kernel_rfl
theorem X1  :QG Try.prog 153 none 0 (C6.Q3 1) l1:=QO mixed (Q6 QD Q5 _) (by trivial) (fun _=>rfl) (fun _=>rfl) (tl1▸(QB.cons rfl WY QB.nil)) Jz
def E1:Env:=⟨ty,QQ cl,JL [(1,l1),(2,l2)],none⟩
structure p0X where
 set:Int
 n:Int
 outs9_lo:Nat
 outs9_len:Nat
 o:Int
 outs:Int
 cols:List (Int)
 xs:List (Int)
def p0:Pt p0X where
 own:=[.reg 9 (.int .i64)]
 t:=⟨[(1,.c (.it .u32)),(7,.c (.ptr 1 0)),(8,.c (.it .i64)),(9,.c (.sl 2 0 1)),(10,.c (.it .i64))],[.st [.junk,.junk] 1 0,.st [.it .i64,.arr (.int .u64)] 1 0,.arr (.int .i64) 0]⟩
 to:=fun v=>⟨v.1.1,v.1.2.2.1,v.1.2.2.2.1.1,v.1.2.2.2.1.2,v.1.2.2.2.2.1,v.2.2.1.1,v.2.2.1.2.1,v.2.2.2.1⟩
 fr:=fun x=>((x.set,((),(x.n,((x.outs9_lo,x.outs9_len),(x.o,()))))),(((),((),())),((x.outs,(x.cols,())),(x.xs,()))))
structure q0X where
 set:Int
 n:Int
 outs9:List (Int)
 outs:Int
 cols:List (Int)
def q0:Pt q0X where
 own:=[]
 t:=⟨[(1,.c (.it .u32)),(7,.c (.ptr 1 0)),(8,.c (.it .i64)),(9,.c (.arr (.int .i64)))],[.st [.junk,.junk] 1 0,.st [.it .i64,.arr (.int .u64)] 1 0]⟩
 to:=fun v=>⟨v.1.1,v.1.2.2.1,v.1.2.2.2.1,v.2.2.1.1,v.2.2.1.2.1⟩
 fr:=fun x=>((x.set,((),(x.n,(x.outs9,())))),(((),((),())),((x.outs,(x.cols,())),())))
def s0(x:p0X):Option (p0X⊕q0X):=bif decide (x.o<x.outs) then bif decide (0≤x.o) then bif (x.set.fdiv (2^min x.o.toNat 32)).tmod 2==1 then bif eqN x.outs9_lo 0&&eqN x.xs.length x.outs9_len&&QP (x.outs9_len+1) 8 then some (Sum.inl ⟨x.set,x.n,0,x.outs9_len+1,IntKind.i64.wrap (x.o+1),x.outs,x.cols,x.xs++[x.o]⟩) else none else some (Sum.inl ⟨x.set,x.n,x.outs9_lo,x.outs9_len,IntKind.i64.wrap (x.o+1),x.outs,x.cols,x.xs⟩) else none else bif leB (x.outs9_lo+x.outs9_len) x.xs.length&&true&&true then some (Sum.inr ⟨x.set,x.n,List.take x.outs9_len (List.drop x.outs9_lo x.xs),x.outs,x.cols⟩) else none
theorem Qe(x:p0X):exec E1 153 (C6.Q3 0) 1 (p0.R x) (p0.H x) (Qt 0 p0 (.exit 0) q0)=s0 x:=by kernel_rfl
def l0:QN:=Qu 0 p0 (.exit 0) q0 s0
theorem tl0:QI (C6.Q3 0) 1=[]:=by kernel_rfl
theorem Qf  :QG Try.prog 153 none 0 (C6.Q3 0) l0:=QO mixed (Q6 QD Q5 _) (by trivial) (fun _=>rfl) (fun _=>rfl) (tl0▸QB.nil) Qe
def E0:Env:=⟨ty,QQ cl,JL [(0,l0),(1,l1),(2,l2)],none⟩
def m(x:gX):Option fY:=bif decide ((↑x.cols0.length:Int)>12) then Q2 (some PUnit.unit) fun y=>some true else Q2 (F10.m ⟨x.outs0,x.cols0⟩) fun y=>bif bif decide ((↑y.2.length:Int)>0) then x.chain.tmod 2==0 else false then bif nz (↑y.2.length:Int) then bif inR ((IntKind.i64.wrap x.chain).tmod (↑y.2.length:Int)) y.2.length then Q2 (iter s0 ⟨IntKind.u32.wrap (y.2[((IntKind.i64.wrap x.chain).tmod (↑y.2.length:Int)).toNat]?.getD 0),(↑y.2.length:Int),0,0,0,y.1,y.2,[]⟩) fun y=>Q2 (iter s1 ⟨y.set,y.n,y.outs9,0,0,0,y.outs,y.cols⟩) fun y=>Q2 (F18.m ⟨y.outs,y.cols,y.outs9⟩) fun y_1=>bif y.many !=1 then Q2 (bif bif y_1.1==0 then y_1.2==9 else false then some PUnit.unit else some PUnit.unit) fun y=>some (bif bif y_1.1==0 then y_1.2==9 else false then true else false) else bif decide (0≤y.n)&&decide (y.n≤y.n)&&decide (y.n*(↑1:Int)≤281474976710656)&&decide (y.n≤9223372036854775807) then bif decide (0≤y.n)&&decide (y.n≤y.n)&&decide (y.n*(↑1:Int)≤281474976710656)&&decide (y.n≤9223372036854775807) then bif inR y.pos y.n.toNat then bif decide (0+y.pos.toNat<(List.replicate y.n.toNat (0:Int)).length) then Q2 (bif leB (0+y.n.toNat) (List.replicate y.n.toNat (0:Int)).length&&(leB (0+y.n.toNat) ((List.replicate y.n.toNat (0:Int)).set (0+y.pos.toNat) 1).length&&true) then F13o.m ⟨y.outs,y.cols,List.take y.n.toNat (List.drop 0 (List.replicate y.n.toNat (0:Int))),List.take y.n.toNat (List.drop 0 ((List.replicate y.n.toNat (0:Int)).set (0+y.pos.toNat) 1)),0⟩ else none) fun y_2=>Q2 (bif leB (y_2.1+y_2.2.1) y_2.2.2.2.2.length&&true then F18.m ⟨y.outs,y.cols,List.take y_2.2.1 (List.drop y_2.1 y_2.2.2.2.2)⟩ else none) fun y_3=>Q2 (bif bif bif bif bif y_1.1==y.pos then y_1.2==0 else false then y_2.2.2.2.1==0 else false then y_3.2==0 else false then y_3.1==y.pos else false then some PUnit.unit else some PUnit.unit) fun y_4=>some (bif bif bif bif bif y_1.1==y.pos then y_1.2==0 else false then y_2.2.2.2.1==0 else false then y_3.2==0 else false then y_3.1==y.pos else false then true else false) else none else none else none else none else none else none else Q2 (iter s0 ⟨x.set,(↑y.2.length:Int),0,0,0,y.1,y.2,[]⟩) fun y=>Q2 (iter s1 ⟨y.set,y.n,y.outs9,0,0,0,y.outs,y.cols⟩) fun y=>Q2 (F18.m ⟨y.outs,y.cols,y.outs9⟩) fun y_1=>bif y.many !=1 then Q2 (bif bif y_1.1==0 then y_1.2==9 else false then some PUnit.unit else some PUnit.unit) fun y=>some (bif bif y_1.1==0 then y_1.2==9 else false then true else false) else bif decide (0≤y.n)&&decide (y.n≤y.n)&&decide (y.n*(↑1:Int)≤281474976710656)&&decide (y.n≤9223372036854775807) then bif decide (0≤y.n)&&decide (y.n≤y.n)&&decide (y.n*(↑1:Int)≤281474976710656)&&decide (y.n≤9223372036854775807) then bif inR y.pos y.n.toNat then bif decide (0+y.pos.toNat<(List.replicate y.n.toNat (0:Int)).length) then Q2 (bif leB (0+y.n.toNat) (List.replicate y.n.toNat (0:Int)).length&&(leB (0+y.n.toNat) ((List.replicate y.n.toNat (0:Int)).set (0+y.pos.toNat) 1).length&&true) then F13o.m ⟨y.outs,y.cols,List.take y.n.toNat (List.drop 0 (List.replicate y.n.toNat (0:Int))),List.take y.n.toNat (List.drop 0 ((List.replicate y.n.toNat (0:Int)).set (0+y.pos.toNat) 1)),0⟩ else none) fun y_2=>Q2 (bif leB (y_2.1+y_2.2.1) y_2.2.2.2.2.length&&true then F18.m ⟨y.outs,y.cols,List.take y_2.2.1 (List.drop y_2.1 y_2.2.2.2.2)⟩ else none) fun y_3=>Q2 (bif bif bif bif bif y_1.1==y.pos then y_1.2==0 else false then y_2.2.2.2.1==0 else false then y_3.2==0 else false then y_3.1==y.pos else false then some PUnit.unit else some PUnit.unit) fun y_4=>some (bif bif bif bif bif y_1.1==y.pos then y_1.2==0 else false then y_2.2.2.2.1==0 else false then y_3.2==0 else false then y_3.1==y.pos else false then true else false) else none else none else none else none
theorem QT(x:gX):exec E0 153 C6 0 (QX 0 (g.A x)) (g.H x) (finish 0 ty [.tmp 6] f)=m x:=by kernel_rfl
theorem tl:QI C6 0=[(0,C6.Q3 0),(1,C6.Q3 1)]:=by kernel_rfl
theorem known:QS Try.prog 6 g f m:=
 QC mixed (Q6 QD Q5 _) s6 rfl rfl tl (QB.cons rfl Qf (QB.cons rfl X1 QB.nil)) (fun _ _=>⟨rfl,rfl⟩) (fun _ _=>⟨rfl,rfl⟩) QT
end F6
end Go.Proofs.Ytfcbahfdgopgfaa
namespace Go.Proofs.Ytfcbahfdgopgfaa
open Go.Abs
set_option maxRecDepth 100000
namespace F4
structure gX where
 outs0:Int
 cols0:List (Int)
 good:List (Int)
 bad:List (Int)
 mask:Int
 chain:Int
def g:Sg gX where
 vs:=[.agg [.it .u8,.arr (.int .u32)],.agg [.arr (.int .u8),.arr (.int .u8),.it .u64],.c (.it .u8)]
 h:=[]
 to:=fun a b=>⟨a.1.1,a.1.2.1,a.2.1.1,a.2.1.2.1,a.2.1.2.2.1,a.2.2.1⟩
 fa:=fun x=>((x.outs0,(x.cols0,())),((x.good,(x.bad,(x.mask,()))),(x.chain,())))
 fh:=fun x=>()
abbrev fY:=Bool
def f:Ft fY where
 ord:=none
 sh:=.c (.bo)
 h:=[]
 to:=fun a b=>(a)
 fv:=fun y=>y
 fh:=fun y=>()
def cl:List (FuncId×Con):=[(9,F9.con),(10,F10.con),(11,F11.con),(13,F13.con),(16,F16.con),(17,F17.con)]
theorem Q5:QM Try.prog cl:=⟨F9.Q4,F10.Q4,F11.Q4,F13.Q4,F16.Q4,F17.Q4,trivial⟩
def E3:Env:=⟨ty,QQ cl,fun _=>none,none⟩
structure p2X where
 n:Int
 mask:Int
 c:Int
 one:List (Int)
 two:List (Int)
 unk:Int
 i:Int
 outs:Int
 cols:List (Int)
def p2:Pt p2X where
 own:=[]
 t:=⟨[(7,.c (.ptr 2 0)),(8,.c (.it .i64)),(11,.c (.it .u64)),(17,.c (.it .i64)),(18,.c (.arr (.int .u8))),(19,.c (.arr (.int .u8))),(20,.c (.it .u64)),(21,.c (.it .i64))],[.st [.junk,.junk] 1 0,.st [.junk,.junk,.junk] 1 0,.st [.it .i64,.arr (.int .u64)] 1 0]⟩
 to:=fun v=>⟨v.1.2.1,v.1.2.2.1,v.1.2.2.2.1,v.1.2.2.2.2.1,v.1.2.2.2.2.2.1,v.1.2.2.2.2.2.2.1,v.1.2.2.2.2.2.2.2.1,v.2.2.2.1.1,v.2.2.2.1.2.1⟩
 fr:=fun x=>(((),(x.n,(x.mask,(x.c,(x.one,(x.two,(x.unk,(x.i,())))))))),(((),((),())),(((),((),((),()))),((x.outs,(x.cols,())),()))))
structure q2X where
 mask:Int
 c:Int
 one:List (Int)
 two:List (Int)
 unk:Int
 outs:Int
 cols:List (Int)
def q2:Pt q2X where
 own:=[]
 t:=⟨[(7,.c (.ptr 2 0)),(11,.c (.it .u64)),(17,.c (.it .i64)),(18,.c (.arr (.int .u8))),(19,.c (.arr (.int .u8))),(20,.c (.it .u64))],[.st [.junk,.junk] 1 0,.st [.junk,.junk,.junk] 1 0,.st [.it .i64,.arr (.int .u64)] 1 0]⟩
 to:=fun v=>⟨v.1.2.1,v.1.2.2.1,v.1.2.2.2.1,v.1.2.2.2.2.1,v.1.2.2.2.2.2.1,v.2.2.2.1.1,v.2.2.2.1.2.1⟩
 fr:=fun x=>(((),(x.mask,(x.c,(x.one,(x.two,(x.unk,())))))),(((),((),())),(((),((),((),()))),((x.outs,(x.cols,())),()))))
def s2(x:p2X):Option (p2X⊕q2X):=bif decide (x.i<x.n) then bif inR x.i x.one.length then bif decide (0≤x.i)||!x.one[x.i.toNat]?.getD 0==2 then bif bif decide (0≤x.i)&&true then true else bif bif x.one[x.i.toNat]?.getD 0==2 then (x.mask.fdiv (2^min x.i.toNat 64)).tmod 2==0 else false then false else true then some (Sum.inl ⟨x.n,x.mask,x.c,x.one,x.two,bif bif x.one[x.i.toNat]?.getD 0==2 then (x.mask.fdiv (2^min x.i.toNat 64)).tmod 2==0 else false then IntKind.u64.wrap (↑(BitVec.ofInt 64 x.unk|||BitVec.ofInt 64 (IntKind.u64.wrap (1*2^min x.i.toNat 64))).toNat:Int) else x.unk,IntKind.i64.wrap (x.i+1),x.outs,x.cols⟩) else none else none else none else some (Sum.inr ⟨x.mask,x.c,x.one,x.two,x.unk,x.outs,x.cols⟩)
theorem WK(x:p2X):exec E3 201 (C4.Q3 2) 3 (p2.R x) (p2.H x) (Qt 0 p2 (.exit 4) q2)=s2 x:=by kernel_rfl
def l2:QN:=Qu 0 p2 (.exit 4) q2 s2
theorem tl2:QI (C4.Q3 2) 3=[]:=by kernel_rfl
theorem WY  :QG Try.prog 201 none 0 (C4.Q3 2) l2:=QO mixed (Q6 QD Q5 _) (by trivial) (fun _=>rfl) (fun _=>rfl) (tl2▸QB.nil) WK
def E2:Env:=⟨ty,QQ cl,JL [(2,l2)],none⟩
structure p1X where
 chain:Int
 n:Int
 a:List (Int)
 b:List (Int)
 mask:Int
 l:List (Int)
 i:Int
 some:Bool
 c:Int
 outs:Int
 cols:List (Int)
def p1:Pt p1X where
 own:=[]
 t:=⟨[(2,.c (.it .u8)),(7,.c (.ptr 2 0)),(8,.c (.it .i64)),(9,.c (.arr (.int .u8))),(10,.c (.arr (.int .u8))),(11,.c (.it .u64)),(12,.c (.arr (.int .i64))),(14,.c (.it .i64)),(15,.c (.bo)),(16,.c (.it .i64))],[.st [.junk,.junk] 1 0,.st [.junk,.junk,.junk] 1 0,.st [.it .i64,.arr (.int .u64)] 1 0]⟩
 to:=fun v=>⟨v.1.1,v.1.2.2.1,v.1.2.2.2.1,v.1.2.2.2.2.1,v.1.2.2.2.2.2.1,v.1.2.2.2.2.2.2.1,v.1.2.2.2.2.2.2.2.1,v.1.2.2.2.2.2.2.2.2.1,v.1.2.2.2.2.2.2.2.2.2.1,v.2.2.2.1.1,v.2.2.2.1.2.1⟩
 fr:=fun x=>((x.chain,((),(x.n,(x.a,(x.b,(x.mask,(x.l,(x.i,(x.some,(x.c,())))))))))),(((),((),())),(((),((),((),()))),((x.outs,(x.cols,())),()))))
structure q1X where
 chain:Int
 n:Int
 a:List (Int)
 b:List (Int)
 mask:Int
 l:List (Int)
 i:Int
 some:Bool
 outs:Int
 cols:List (Int)
def q1:Pt q1X where
 own:=[]
 t:=⟨[(2,.c (.it .u8)),(7,.c (.ptr 2 0)),(8,.c (.it .i64)),(9,.c (.arr (.int .u8))),(10,.c (.arr (.int .u8))),(11,.c (.it .u64)),(12,.c (.arr (.int .i64))),(14,.c (.it .i64)),(15,.c (.bo))],[.st [.junk,.junk] 1 0,.st [.junk,.junk,.junk] 1 0,.st [.it .i64,.arr (.int .u64)] 1 0]⟩
 to:=fun v=>⟨v.1.1,v.1.2.2.1,v.1.2.2.2.1,v.1.2.2.2.2.1,v.1.2.2.2.2.2.1,v.1.2.2.2.2.2.2.1,v.1.2.2.2.2.2.2.2.1,v.1.2.2.2.2.2.2.2.2.1,v.2.2.2.1.1,v.2.2.2.1.2.1⟩
 fr:=fun x=>((x.chain,((),(x.n,(x.a,(x.b,(x.mask,(x.l,(x.i,(x.some,()))))))))),(((),((),())),(((),((),((),()))),((x.outs,(x.cols,())),()))))
def s1(x:p1X):Option (p1X⊕q1X):=bif decide (x.c<x.n) then bif inR x.i x.l.length||!!x.some then Q2 (bif !x.some then F16.m ⟨x.outs,x.cols,x.c,x.l[x.i.toNat]?.getD 0⟩ else some false) fun y=>bif decide (0≤x.c)||!(!x.some&&y) then bif inR x.c x.a.length||!(!x.some&&bif y then (x.mask.fdiv (2^min x.c.toNat 64)).tmod 2==0 else false) then bif inR x.c x.b.length||!(!x.some&&bif y then (x.mask.fdiv (2^min x.c.toNat 64)).tmod 2==0 else false) then some (Sum.inl ⟨x.chain,x.n,x.a,x.b,x.mask,x.l,x.i,bif x.some then true else bif bif y then (x.mask.fdiv (2^min x.c.toNat 64)).tmod 2==0 else false then IntKind.u8.wrap (x.a[x.c.toNat]?.getD 0+x.b[x.c.toNat]?.getD 0)==1 else false,IntKind.i64.wrap (x.c+1),x.outs,x.cols⟩) else none else none else none else none else some (Sum.inr ⟨x.chain,x.n,x.a,x.b,x.mask,x.l,x.i,x.some,x.outs,x.cols⟩)
theorem Jz(x:p1X):exec E2 201 (C4.Q3 1) 2 (p1.R x) (p1.H x) (Qt 0 p1 (.exit 2) q1)=s1 x:=by kernel_rfl
def l1:QN:=Qu 0 p1 (.exit 2) q1 s1
theorem tl1:QI (C4.Q3 1) 2=[]:=by kernel_rfl
theorem X1  :QG Try.prog 201 none 0 (C4.Q3 1) l1:=QO mixed (Q6 QD Q5 _) (by trivial) (fun _=>rfl) (fun _=>rfl) (tl1▸QB.nil) Jz
def E1:Env:=⟨ty,QQ cl,JL [(1,l1),(2,l2)],none⟩
structure p0X where
 chain:Int
 n:Int
 a:List (Int)
 b:List (Int)
 mask:Int
 l:List (Int)
 i:Int
 outs:Int
 cols:List (Int)
def p0:Pt p0X where
 own:=[]
 t:=⟨[(2,.c (.it .u8)),(7,.c (.ptr 2 0)),(8,.c (.it .i64)),(9,.c (.arr (.int .u8))),(10,.c (.arr (.int .u8))),(11,.c (.it .u64)),(12,.c (.arr (.int .i64))),(14,.c (.it .i64))],[.st [.junk,.junk] 1 0,.st [.junk,.junk,.junk] 1 0,.st [.it .i64,.arr (.int .u64)] 1 0]⟩
 to:=fun v=>⟨v.1.1,v.1.2.2.1,v.1.2.2.2.1,v.1.2.2.2.2.1,v.1.2.2.2.2.2.1,v.1.2.2.2.2.2.2.1,v.1.2.2.2.2.2.2.2.1,v.2.2.2.1.1,v.2.2.2.1.2.1⟩
 fr:=fun x=>((x.chain,((),(x.n,(x.a,(x.b,(x.mask,(x.l,(x.i,())))))))),(((),((),())),(((),((),((),()))),((x.outs,(x.cols,())),()))))
structure q0X where
 chain:Int
 n:Int
 a:List (Int)
 mask:Int
 outs:Int
 cols:List (Int)
def q0:Pt q0X where
 own:=[]
 t:=⟨[(2,.c (.it .u8)),(7,.c (.ptr 2 0)),(8,.c (.it .i64)),(9,.c (.arr (.int .u8))),(11,.c (.it .u64))],[.st [.junk,.junk] 1 0,.st [.junk,.junk,.junk] 1 0,.st [.it .i64,.arr (.int .u64)] 1 0]⟩
 to:=fun v=>⟨v.1.1,v.1.2.2.1,v.1.2.2.2.1,v.1.2.2.2.2.1,v.2.2.2.1.1,v.2.2.2.1.2.1⟩
 fr:=fun x=>((x.chain,((),(x.n,(x.a,(x.mask,()))))),(((),((),())),(((),((),((),()))),((x.outs,(x.cols,())),()))))
structure z0X where
 r:Bool
def z0:Pt z0X where
 own:=[]
 t:=⟨[(6,.c (.bo))],[]⟩
 to:=fun v=>⟨v.1.1⟩
 fr:=fun x=>((x.r,()),())
def s0(x:p0X):Option (p0X⊕(q0X⊕z0X)):=bif decide (x.i<(↑x.l.length:Int)) then Q2 (iter s1 ⟨x.chain,x.n,x.a,x.b,x.mask,x.l,x.i,false,0,x.outs,x.cols⟩) fun y=>bif !y.some then some (Sum.inr (Sum.inr ⟨false⟩)) else some (Sum.inl ⟨y.chain,y.n,y.a,y.b,y.mask,y.l,IntKind.i64.wrap (y.i+1),y.outs,y.cols⟩) else some (Sum.inr (Sum.inl ⟨x.chain,x.n,x.a,x.mask,x.outs,x.cols⟩))
theorem Qe(x:p0X):exec E1 201 (C4.Q3 0) 1 (p0.R x) (p0.H x) (JH 0 p0 (.exit 0) q0 .ret z0)=s0 x:=by kernel_rfl
def l0:QN:=JE 0 p0 (.exit 0) q0 .ret z0 s0
theorem tl0:QI (C4.Q3 0) 1=[(1,C4.Q3 1)]:=by kernel_rfl
theorem Qf  :QG Try.prog 201 none 0 (C4.Q3 0) l0:=Qg mixed (Q6 QD Q5 _) (by trivial) (by trivial) (fun _=>rfl) (fun _=>rfl) (fun _=>rfl) (tl0▸(QB.cons rfl X1 QB.nil)) Qe
def E0:Env:=⟨ty,QQ cl,JL [(0,l0),(1,l1),(2,l2)],none⟩
def m(x:gX):Option fY:=bif decide ((↑x.cols0.length:Int)>12) then Q2 (some PUnit.unit) fun y=>some true else Q2 (F10.m ⟨x.outs0,x.cols0⟩) fun y=>Q2 (F11.m ⟨x.good,(↑y.2.length:Int)⟩) fun y_1=>Q2 (F11.m ⟨x.bad,(↑y.2.length:Int)⟩) fun y_2=>bif decide (0≤(↑y.2.length:Int)) then bif nz (IntKind.u64.wrap (1*2^min (↑y.2.length:Int).toNat 64)) then Q2 (F13.m ⟨y.1,y.2,y_1,y_2,x.mask.tmod (IntKind.u64.wrap (1*2^min (↑y.2.length:Int).toNat 64))⟩) fun y_3=>bif y_3.2 !=0 then some false else Q2 (iter s0 ⟨x.chain,(↑y.2.length:Int),y_1,y_2,x.mask.tmod (IntKind.u64.wrap (1*2^min (↑y.2.length:Int).toNat 64)),y_3.1,0,y.1,y.2⟩) fun s=>JK s (fun y=>bif y.n==0 then Q2 (some PUnit.unit) fun y=>some true else bif nz y.n then bif QP y.a.length 1 then bif inR ((IntKind.i64.wrap y.chain).tmod y.n) y.a.length then bif decide (0+((IntKind.i64.wrap y.chain).tmod y.n).toNat<y.a.length) then bif leB (0+y.a.length) (y.a.set (0+((IntKind.i64.wrap y.chain).tmod y.n).toNat) 0).length&&QP y.a.length 1 then bif inR ((IntKind.i64.wrap y.chain).tmod y.n) y.a.length then bif decide (0+((IntKind.i64.wrap y.chain).tmod y.n).toNat<(List.take y.a.length (List.drop 0 (y.a.set (0+((IntKind.i64.wrap y.chain).tmod y.n).toNat) 0))).length) then bif leB (0+y.a.length) (y.a.set (0+((IntKind.i64.wrap y.chain).tmod y.n).toNat) 0).length&&(leB (0+y.a.length) ((List.take y.a.length (List.drop 0 (y.a.set (0+((IntKind.i64.wrap y.chain).tmod y.n).toNat) 0))).set (0+((IntKind.i64.wrap y.chain).tmod y.n).toNat) 1).length&&true)&&true then Q2 (iter s2 ⟨y.n,y.mask,(IntKind.i64.wrap y.chain).tmod y.n,List.take y.a.length (List.drop 0 (y.a.set (0+((IntKind.i64.wrap y.chain).tmod y.n).toNat) 0)),List.take y.a.length (List.drop 0 ((List.take y.a.length (List.drop 0 (y.a.set (0+((IntKind.i64.wrap y.chain).tmod y.n).toNat) 0))).set (0+((IntKind.i64.wrap y.chain).tmod y.n).toNat) 1)),0,0,y.outs,y.cols⟩) fun y=>Q2 (F13.m ⟨y.outs,y.cols,y.one,y.two,y.mask⟩) fun y_4=>Q2 (F17.m ⟨y.outs,y.cols,y.c,y.unk⟩) fun y_5=>bif bif y_4.2 !=0 then true else y_5.2 !=0 then some false else bif decide (0≤y.c) then bif (y.mask.fdiv (2^min y.c.toNat 64)).tmod 2==1 then Q2 (bif (↑y_4.1.length:Int)==0 then some PUnit.unit else some PUnit.unit) fun y=>some (bif (↑y_4.1.length:Int)==0 then true else false) else bif decide (0≤y.c) then Q2 (F17.m ⟨y.outs,y.cols,y.c,IntKind.u64.wrap (↑(BitVec.ofInt 64 y.unk|||BitVec.ofInt 64 (IntKind.u64.wrap (1*2^min y.c.toNat 64))).toNat:Int)⟩) fun y=>Q2 (bif bif bif decide ((↑y_4.1.length:Int)>0)==y_5.1 then y.2==0 else false then !y.1 else false then some PUnit.unit else some PUnit.unit) fun y_6=>some (bif bif bif decide ((↑y_4.1.length:Int)>0)==y_5.1 then y.2==0 else false then !y.1 else false then true else false) else none else none else none else none else none else none else none else none else none else none) fun z=>some z.r else none else none
theorem QT(x:gX):exec E0 201 C4 0 (QX 0 (g.A x)) (g.H x) (finish 0 ty [.tmp 6] f)=m x:=by kernel_rfl
theorem tl:QI C4 0=[(0,C4.Q3 0),(2,C4.Q3 2)]:=by kernel_rfl
theorem known:QS Try.prog 4 g f m:=
 QC mixed (Q6 QD Q5 _) s4 rfl rfl tl (QB.cons rfl Qf (QB.cons rfl WY QB.nil)) (fun _ _=>⟨rfl,rfl⟩) (fun _ _=>⟨rfl,rfl⟩) QT
end F4
end Go.Proofs.Ytfcbahfdgopgfaa
namespace Go.Proofs.Ytfcbahfdgopgfaa
open Go.Abs
set_option maxRecDepth 100000
namespace F5
structure gX where
 outs0:Int
 cols0:List (Int)
 good:List (Int)
 bad:List (Int)
 mask:Int
def g:Sg gX where
 vs:=[.agg [.it .u8,.arr (.int .u32)],.agg [.arr (.int .u8),.arr (.int .u8),.it .u64]]
 h:=[]
 to:=fun a b=>⟨a.1.1,a.1.2.1,a.2.1.1,a.2.1.2.1,a.2.1.2.2.1⟩
 fa:=fun x=>((x.outs0,(x.cols0,())),((x.good,(x.bad,(x.mask,()))),()))
 fh:=fun x=>()
abbrev fY:=Bool
def f:Ft fY where
 ord:=none
 sh:=.c (.bo)
 h:=[]
 to:=fun a b=>(a)
 fv:=fun y=>y
 fh:=fun y=>()
def cl:List (FuncId×Con):=[(9,F9.con),(10,F10.con),(13,F13.con),(16,F16.con)]
theorem Q5:QM Try.prog cl:=⟨F9.Q4,F10.Q4,F13.Q4,F16.Q4,trivial⟩
def E3:Env:=⟨ty,QQ cl,fun _=>none,none⟩
structure p2X where
 n:Int
 a_lo:Nat
 a_len:Nat
 a_cap:Nat
 b_lo:Nat
 b_len:Nat
 b_cap:Nat
 many:Int
 diff:Bool
 odd:Bool
 i:Int
 bits:Int
 o:Int
 good:List (Int)
 bad:List (Int)
 mask:Int
 outs:Int
 cols:List (Int)
 xa:List (Int)
 xb:List (Int)
def p2:Pt p2X where
 own:=[]
 t:=⟨[(3,.c (.ptr 1 0)),(5,.c (.ptr 2 0)),(6,.c (.it .i64)),(7,.c (.slc 3 0 1)),(8,.c (.slc 4 0 1)),(9,.c (.it .i64)),(10,.c (.bo)),(11,.c (.bo)),(12,.c (.it .i64)),(14,.c (.it .i64)),(15,.c (.it .i64))],[.st [.junk,.junk] 1 0,.st [.arr (.int .u8),.arr (.int .u8),.it .u64] 1 0,.st [.it .i64,.arr (.int .u64)] 1 0,.arr (.int .u8) 0,.arr (.int .u8) 0]⟩
 to:=fun v=>⟨v.1.2.2.1,v.1.2.2.2.1.1,v.1.2.2.2.1.2.1,v.1.2.2.2.1.2.2,v.1.2.2.2.2.1.1,v.1.2.2.2.2.1.2.1,v.1.2.2.2.2.1.2.2,v.1.2.2.2.2.2.1,v.1.2.2.2.2.2.2.1,v.1.2.2.2.2.2.2.2.1,v.1.2.2.2.2.2.2.2.2.1,v.1.2.2.2.2.2.2.2.2.2.1,v.1.2.2.2.2.2.2.2.2.2.2.1,v.2.2.1.1,v.2.2.1.2.1,v.2.2.1.2.2.1,v.2.2.2.1.1,v.2.2.2.1.2.1,v.2.2.2.2.1,v.2.2.2.2.2.1⟩
 fr:=fun x=>(((),((),(x.n,((x.a_lo,x.a_len,x.a_cap),((x.b_lo,x.b_len,x.b_cap),(x.many,(x.diff,(x.odd,(x.i,(x.bits,(x.o,()))))))))))),(((),((),())),((x.good,(x.bad,(x.mask,()))),((x.outs,(x.cols,())),(x.xa,(x.xb,()))))))
structure q2X where
 n:Int
 a_lo:Nat
 a_len:Nat
 a_cap:Nat
 b_lo:Nat
 b_len:Nat
 b_cap:Nat
 many:Int
 diff:Bool
 odd:Bool
 i:Int
 bits:Int
 good:List (Int)
 bad:List (Int)
 mask:Int
 outs:Int
 cols:List (Int)
 xa:List (Int)
 xb:List (Int)
def q2:Pt q2X where
 own:=[]
 t:=⟨[(3,.c (.ptr 1 0)),(5,.c (.ptr 2 0)),(6,.c (.it .i64)),(7,.c (.slc 3 0 1)),(8,.c (.slc 4 0 1)),(9,.c (.it .i64)),(10,.c (.bo)),(11,.c (.bo)),(12,.c (.it .i64)),(14,.c (.it .i64))],[.st [.junk,.junk] 1 0,.st [.arr (.int .u8),.arr (.int .u8),.it .u64] 1 0,.st [.it .i64,.arr (.int .u64)] 1 0,.arr (.int .u8) 0,.arr (.int .u8) 0]⟩
 to:=fun v=>⟨v.1.2.2.1,v.1.2.2.2.1.1,v.1.2.2.2.1.2.1,v.1.2.2.2.1.2.2,v.1.2.2.2.2.1.1,v.1.2.2.2.2.1.2.1,v.1.2.2.2.2.1.2.2,v.1.2.2.2.2.2.1,v.1.2.2.2.2.2.2.1,v.1.2.2.2.2.2.2.2.1,v.1.2.2.2.2.2.2.2.2.1,v.1.2.2.2.2.2.2.2.2.2.1,v.2.2.1.1,v.2.2.1.2.1,v.2.2.1.2.2.1,v.2.2.2.1.1,v.2.2.2.1.2.1,v.2.2.2.2.1,v.2.2.2.2.2.1⟩
 fr:=fun x=>(((),((),(x.n,((x.a_lo,x.a_len,x.a_cap),((x.b_lo,x.b_len,x.b_cap),(x.many,(x.diff,(x.odd,(x.i,(x.bits,())))))))))),(((),((),())),((x.good,(x.bad,(x.mask,()))),((x.outs,(x.cols,())),(x.xa,(x.xb,()))))))
def s2(x:p2X):Option (p2X⊕q2X):=bif decide (x.o<x.outs) then Q2 (F16.m ⟨x.outs,x.cols,x.i,x.o⟩) fun y=>some (Sum.inl ⟨x.n,x.a_lo,x.a_len,x.a_cap,x.b_lo,x.b_len,x.b_cap,x.many,x.diff,x.odd,x.i,bif y then IntKind.i64.wrap (x.bits+1) else x.bits,IntKind.i64.wrap (x.o+1),x.good,x.bad,x.mask,x.outs,x.cols,x.xa,x.xb⟩) else some (Sum.inr ⟨x.n,x.a_lo,x.a_len,x.a_cap,x.b_lo,x.b_len,x.b_cap,x.many,x.diff,x.odd,x.i,x.bits,x.good,x.bad,x.mask,x.outs,x.cols,x.xa,x.xb⟩)
theorem WK(x:p2X):exec E3 174 (C5.Q3 2) 3 (p2.R x) (p2.H x) (Qt 0 p2 (.exit 4) q2)=s2 x:=by kernel_rfl
def l2:QN:=Qu 0 p2 (.exit 4) q2 s2
theorem tl2:QI (C5.Q3 2) 3=[]:=by kernel_rfl
theorem WY  :QG Try.prog 174 none 0 (C5.Q3 2) l2:=QO mixed (Q6 QD Q5 _) (by trivial) (fun _=>rfl) (fun _=>rfl) (tl2▸QB.nil) WK
def E2:Env:=⟨ty,QQ cl,JL [(2,l2)],none⟩
structure p1X where
 n:Int
 a_lo:Nat
 a_len:Nat
 a_cap:Nat
 b_lo:Nat
 b_len:Nat
 b_cap:Nat
 many:Int
 diff:Bool
 odd:Bool
 i:Int
 j:Int
 good:List (Int)
 bad:List (Int)
 mask:Int
 outs:Int
 cols:List (Int)
 xa:List (Int)
 xb:List (Int)
def p1:Pt p1X where
 own:=[]
 t:=⟨[(3,.c (.ptr 1 0)),(5,.c (.ptr 2 0)),(6,.c (.it .i64)),(7,.c (.slc 3 0 1)),(8,.c (.slc 4 0 1)),(9,.c (.it .i64)),(10,.c (.bo)),(11,.c (.bo)),(12,.c (.it .i64)),(13,.c (.it .i64))],[.st [.junk,.junk] 1 0,.st [.arr (.int .u8),.arr (.int .u8),.it .u64] 1 0,.st [.it .i64,.arr (.int .u64)] 1 0,.arr (.int .u8) 0,.arr (.int .u8) 0]⟩
 to:=fun v=>⟨v.1.2.2.1,v.1.2.2.2.1.1,v.1.2.2.2.1.2.1,v.1.2.2.2.1.2.2,v.1.2.2.2.2.1.1,v.1.2.2.2.2.1.2.1,v.1.2.2.2.2.1.2.2,v.1.2.2.2.2.2.1,v.1.2.2.2.2.2.2.1,v.1.2.2.2.2.2.2.2.1,v.1.2.2.2.2.2.2.2.2.1,v.1.2.2.2.2.2.2.2.2.2.1,v.2.2.1.1,v.2.2.1.2.1,v.2.2.1.2.2.1,v.2.2.2.1.1,v.2.2.2.1.2.1,v.2.2.2.2.1,v.2.2.2.2.2.1⟩
 fr:=fun x=>(((),((),(x.n,((x.a_lo,x.a_len,x.a_cap),((x.b_lo,x.b_len,x.b_cap),(x.many,(x.diff,(x.odd,(x.i,(x.j,())))))))))),(((),((),())),((x.good,(x.bad,(x.mask,()))),((x.outs,(x.cols,())),(x.xa,(x.xb,()))))))
structure q1X where
 n:Int
 a_lo:Nat
 a_len:Nat
 a_cap:Nat
 b_lo:Nat
 b_len:Nat
 b_cap:Nat
 many:Int
 diff:Bool
 odd:Bool
 i:Int
 good:List (Int)
 bad:List (Int)
 mask:Int
 outs:Int
 cols:List (Int)
 xa:List (Int)
 xb:List (Int)
def q1:Pt q1X where
 own:=[]
 t:=⟨[(3,.c (.ptr 1 0)),(5,.c (.ptr 2 0)),(6,.c (.it .i64)),(7,.c (.slc 3 0 1)),(8,.c (.slc 4 0 1)),(9,.c (.it .i64)),(10,.c (.bo)),(11,.c (.bo)),(12,.c (.it .i64))],[.st [.junk,.junk] 1 0,.st [.arr (.int .u8),.arr (.int .u8),.it .u64] 1 0,.st [.it .i64,.arr (.int .u64)] 1 0,.arr (.int .u8) 0,.arr (.int .u8) 0]⟩
 to:=fun v=>⟨v.1.2.2.1,v.1.2.2.2.1.1,v.1.2.2.2.1.2.1,v.1.2.2.2.1.2.2,v.1.2.2.2.2.1.1,v.1.2.2.2.2.1.2.1,v.1.2.2.2.2.1.2.2,v.1.2.2.2.2.2.1,v.1.2.2.2.2.2.2.1,v.1.2.2.2.2.2.2.2.1,v.1.2.2.2.2.2.2.2.2.1,v.2.2.1.1,v.2.2.1.2.1,v.2.2.1.2.2.1,v.2.2.2.1.1,v.2.2.2.1.2.1,v.2.2.2.2.1,v.2.2.2.2.2.1⟩
 fr:=fun x=>(((),((),(x.n,((x.a_lo,x.a_len,x.a_cap),((x.b_lo,x.b_len,x.b_cap),(x.many,(x.diff,(x.odd,(x.i,()))))))))),(((),((),())),((x.good,(x.bad,(x.mask,()))),((x.outs,(x.cols,())),(x.xa,(x.xb,()))))))
def s1(x:p1X):Option (p1X⊕q1X):=bif decide (x.j<x.i) then bif inR x.i x.cols.length||!x.diff then bif inR x.j x.cols.length||!x.diff then some (Sum.inl ⟨x.n,x.a_lo,x.a_len,x.a_cap,x.b_lo,x.b_len,x.b_cap,x.many,bif x.diff then x.cols[x.i.toNat]?.getD 0 !=x.cols[x.j.toNat]?.getD 0 else false,x.odd,x.i,IntKind.i64.wrap (x.j+1),x.good,x.bad,x.mask,x.outs,x.cols,x.xa,x.xb⟩) else none else none else some (Sum.inr ⟨x.n,x.a_lo,x.a_len,x.a_cap,x.b_lo,x.b_len,x.b_cap,x.many,x.diff,x.odd,x.i,x.good,x.bad,x.mask,x.outs,x.cols,x.xa,x.xb⟩)
theorem Jz(x:p1X):exec E2 174 (C5.Q3 1) 2 (p1.R x) (p1.H x) (Qt 0 p1 (.exit 2) q1)=s1 x:=by kernel_rfl
def l1:QN:=Qu 0 p1 (.exit 2) q1 s1
theorem tl1:QI (C5.Q3 1) 2=[]:=by kernel_rfl
theorem X1  :QG Try.prog 174 none 0 (C5.Q3 1) l1:=QO mixed (Q6 QD Q5 _) (by trivial) (fun _=>rfl) (fun _=>rfl) (tl1▸QB.nil) Jz
def E1:Env:=⟨ty,QQ cl,JL [(1,l1),(2,l2)],none⟩
structure p0X where
 n:Int
 a_lo:Nat
 a_len:Nat
 a_cap:Nat
 b_lo:Nat
 b_len:Nat
 b_cap:Nat
 many:Int
 diff:Bool
 odd:Bool
 i:Int
 good:List (Int)
 bad:List (Int)
 mask:Int
 outs:Int
 cols:List (Int)
 xa:List (Int)
 xb:List (Int)
def p0:Pt p0X where
 own:=[]
 t:=⟨[(3,.c (.ptr 1 0)),(5,.c (.ptr 2 0)),(6,.c (.it .i64)),(7,.c (.slc 3 0 1)),(8,.c (.slc 4 0 1)),(9,.c (.it .i64)),(10,.c (.bo)),(11,.c (.bo)),(12,.c (.it .i64))],[.st [.junk,.junk] 1 0,.st [.arr (.int .u8),.arr (.int .u8),.it .u64] 1 0,.st [.it .i64,.arr (.int .u64)] 1 0,.arr (.int .u8) 0,.arr (.int .u8) 0]⟩
 to:=fun v=>⟨v.1.2.2.1,v.1.2.2.2.1.1,v.1.2.2.2.1.2.1,v.1.2.2.2.1.2.2,v.1.2.2.2.2.1.1,v.1.2.2.2.2.1.2.1,v.1.2.2.2.2.1.2.2,v.1.2.2.2.2.2.1,v.1.2.2.2.2.2.2.1,v.1.2.2.2.2.2.2.2.1,v.1.2.2.2.2.2.2.2.2.1,v.2.2.1.1,v.2.2.1.2.1,v.2.2.1.2.2.1,v.2.2.2.1.1,v.2.2.2.1.2.1,v.2.2.2.2.1,v.2.2.2.2.2.1⟩
 fr:=fun x=>(((),((),(x.n,((x.a_lo,x.a_len,x.a_cap),((x.b_lo,x.b_len,x.b_cap),(x.many,(x.diff,(x.odd,(x.i,()))))))))),(((),((),())),((x.good,(x.bad,(x.mask,()))),((x.outs,(x.cols,())),(x.xa,(x.xb,()))))))
structure q0X where
 a:List (Int)
 b:List (Int)
 many:Int
 diff:Bool
 odd:Bool
 outs:Int
 cols:List (Int)
def q0:Pt q0X where
 own:=[]
 t:=⟨[(5,.c (.ptr 2 0)),(7,.c (.arr (.int .u8))),(8,.c (.arr (.int .u8))),(9,.c (.it .i64)),(10,.c (.bo)),(11,.c (.bo))],[.st [.junk,.junk] 1 0,.st [.junk,.junk,.junk] 1 0,.st [.it .i64,.arr (.int .u64)] 1 0]⟩
 to:=fun v=>⟨v.1.2.1,v.1.2.2.1,v.1.2.2.2.1,v.1.2.2.2.2.1,v.1.2.2.2.2.2.1,v.2.2.2.1.1,v.2.2.2.1.2.1⟩
 fr:=fun x=>(((),(x.a,(x.b,(x.many,(x.diff,(x.odd,())))))),(((),((),())),(((),((),((),()))),((x.outs,(x.cols,())),()))))
def s0(x:p0X):Option (p0X⊕q0X):=bif decide (x.i<x.n) then bif decide (x.i<(↑x.good.length:Int)) then bif inR x.i x.good.length then bif inR x.i x.a_len then bif decide (x.a_lo+x.i.toNat<x.xa.length) then bif inR x.i x.a_len then bif decide (x.a_lo+x.i.toNat<(x.xa.set (x.a_lo+x.i.toNat) (Int.tmod (x.good[x.i.toNat]?.getD 0) 2)).length) then bif inR x.i x.b_len then bif decide (x.b_lo+x.i.toNat<x.xb.length) then bif inR x.i x.bad.length||!decide (x.i<(↑x.bad.length:Int)) then bif bif decide (x.i<(↑x.bad.length:Int)) then Int.tmod (x.bad[x.i.toNat]?.getD 0) 4==0 else false then bif inR x.i x.a_len then bif decide (x.a_lo+x.i.toNat<(x.xa.set (x.a_lo+x.i.toNat) (Int.tmod (x.good[x.i.toNat]?.getD 0) 2)).length) then bif inR x.i x.b_len then bif decide (x.b_lo+x.i.toNat<(x.xb.set (x.b_lo+x.i.toNat) ((x.xa.set (x.a_lo+x.i.toNat) (Int.tmod (x.good[x.i.toNat]?.getD 0) 2))[x.a_lo+x.i.toNat]?.getD 0)).length) then bif inR x.i x.cols.length||!x.diff then Q2 (iter s1 ⟨x.n,x.a_lo,x.a_len,x.a_cap,x.b_lo,x.b_len,x.b_cap,IntKind.i64.wrap (x.many+1),bif x.diff then x.cols[x.i.toNat]?.getD 0 !=0 else false,x.odd,x.i,0,x.good,x.bad,x.mask,x.outs,x.cols,x.xa.set (x.a_lo+x.i.toNat) (Int.tmod (x.good[x.i.toNat]?.getD 0) 2),(x.xb.set (x.b_lo+x.i.toNat) ((x.xa.set (x.a_lo+x.i.toNat) (Int.tmod (x.good[x.i.toNat]?.getD 0) 2))[x.a_lo+x.i.toNat]?.getD 0)).set (x.b_lo+x.i.toNat) (IntKind.u8.wrap (1 - (x.xa.set (x.a_lo+x.i.toNat) (Int.tmod (x.good[x.i.toNat]?.getD 0) 2))[x.a_lo+x.i.toNat]?.getD 0))⟩) fun y=>Q2 (iter s2 ⟨y.n,y.a_lo,y.a_len,y.a_cap,y.b_lo,y.b_len,y.b_cap,y.many,y.diff,y.odd,y.i,0,0,y.good,y.bad,y.mask,y.outs,y.cols,y.xa,y.xb⟩) fun y=>some (Sum.inl ⟨y.n,y.a_lo,y.a_len,y.a_cap,y.b_lo,y.b_len,y.b_cap,y.many,y.diff,bif y.odd then y.bits.tmod 2==1 else false,IntKind.i64.wrap (y.i+1),y.good,y.bad,y.mask,y.outs,y.cols,y.xa,y.xb⟩) else none else none else none else none else none else bif inR x.i x.cols.length||!x.diff then Q2 (iter s1 ⟨x.n,x.a_lo,x.a_len,x.a_cap,x.b_lo,x.b_len,x.b_cap,x.many,bif x.diff then x.cols[x.i.toNat]?.getD 0 !=0 else false,x.odd,x.i,0,x.good,x.bad,x.mask,x.outs,x.cols,x.xa.set (x.a_lo+x.i.toNat) (Int.tmod (x.good[x.i.toNat]?.getD 0) 2),x.xb.set (x.b_lo+x.i.toNat) ((x.xa.set (x.a_lo+x.i.toNat) (Int.tmod (x.good[x.i.toNat]?.getD 0) 2))[x.a_lo+x.i.toNat]?.getD 0)⟩) fun y=>Q2 (iter s2 ⟨y.n,y.a_lo,y.a_len,y.a_cap,y.b_lo,y.b_len,y.b_cap,y.many,y.diff,y.odd,y.i,0,0,y.good,y.bad,y.mask,y.outs,y.cols,y.xa,y.xb⟩) fun y=>some (Sum.inl ⟨y.n,y.a_lo,y.a_len,y.a_cap,y.b_lo,y.b_len,y.b_cap,y.many,y.diff,bif y.odd then y.bits.tmod 2==1 else false,IntKind.i64.wrap (y.i+1),y.good,y.bad,y.mask,y.outs,y.cols,y.xa,y.xb⟩) else none else none else none else none else none else none else none else none else none else bif inR x.i x.a_len then bif decide (x.a_lo+x.i.toNat<x.xa.length) then bif inR x.i x.b_len then bif decide (x.b_lo+x.i.toNat<x.xb.length) then bif inR x.i x.bad.length||!decide (x.i<(↑x.bad.length:Int)) then bif bif decide (x.i<(↑x.bad.length:Int)) then Int.tmod (x.bad[x.i.toNat]?.getD 0) 4==0 else false then bif inR x.i x.a_len then bif decide (x.a_lo+x.i.toNat<x.xa.length) then bif inR x.i x.b_len then bif decide (x.b_lo+x.i.toNat<(x.xb.set (x.b_lo+x.i.toNat) (x.xa[x.a_lo+x.i.toNat]?.getD 0)).length) then bif inR x.i x.cols.length||!x.diff then Q2 (iter s1 ⟨x.n,x.a_lo,x.a_len,x.a_cap,x.b_lo,x.b_len,x.b_cap,IntKind.i64.wrap (x.many+1),bif x.diff then x.cols[x.i.toNat]?.getD 0 !=0 else false,x.odd,x.i,0,x.good,x.bad,x.mask,x.outs,x.cols,x.xa,(x.xb.set (x.b_lo+x.i.toNat) (x.xa[x.a_lo+x.i.toNat]?.getD 0)).set (x.b_lo+x.i.toNat) (IntKind.u8.wrap (1 - x.xa[x.a_lo+x.i.toNat]?.getD 0))⟩) fun y=>Q2 (iter s2 ⟨y.n,y.a_lo,y.a_len,y.a_cap,y.b_lo,y.b_len,y.b_cap,y.many,y.diff,y.odd,y.i,0,0,y.good,y.bad,y.mask,y.outs,y.cols,y.xa,y.xb⟩) fun y=>some (Sum.inl ⟨y.n,y.a_lo,y.a_len,y.a_cap,y.b_lo,y.b_len,y.b_cap,y.many,y.diff,bif y.odd then y.bits.tmod 2==1 else false,IntKind.i64.wrap (y.i+1),y.good,y.bad,y.mask,y.outs,y.cols,y.xa,y.xb⟩) else none else none else none else none else none else bif inR x.i x.cols.length||!x.diff then Q2 (iter s1 ⟨x.n,x.a_lo,x.a_len,x.a_cap,x.b_lo,x.b_len,x.b_cap,x.many,bif x.diff then x.cols[x.i.toNat]?.getD 0 !=0 else false,x.odd,x.i,0,x.good,x.bad,x.mask,x.outs,x.cols,x.xa,x.xb.set (x.b_lo+x.i.toNat) (x.xa[x.a_lo+x.i.toNat]?.getD 0)⟩) fun y=>Q2 (iter s2 ⟨y.n,y.a_lo,y.a_len,y.a_cap,y.b_lo,y.b_len,y.b_cap,y.many,y.diff,y.odd,y.i,0,0,y.good,y.bad,y.mask,y.outs,y.cols,y.xa,y.xb⟩) fun y=>some (Sum.inl ⟨y.n,y.a_lo,y.a_len,y.a_cap,y.b_lo,y.b_len,y.b_cap,y.many,y.diff,bif y.odd then y.bits.tmod 2==1 else false,IntKind.i64.wrap (y.i+1),y.good,y.bad,y.mask,y.outs,y.cols,y.xa,y.xb⟩) else none else none else none else none else none else none else bif leB (x.a_lo+x.a_len) x.xa.length&&(leB (x.b_lo+x.b_len) x.xb.length&&true)&&true then some (Sum.inr ⟨List.take x.a_len (List.drop x.a_lo x.xa),List.take x.b_len (List.drop x.b_lo x.xb),x.many,x.diff,x.odd,x.outs,x.cols⟩) else none
theorem Qe(x:p0X):exec E1 174 (C5.Q3 0) 1 (p0.R x) (p0.H x) (Qt 0 p0 (.exit 0) q0)=s0 x:=by kernel_rfl
def l0:QN:=Qu 0 p0 (.exit 0) q0 s0
theorem tl0:QI (C5.Q3 0) 1=[(1,C5.Q3 1),(2,C5.Q3 2)]:=by kernel_rfl
theorem Qf  :QG Try.prog 174 none 0 (C5.Q3 0) l0:=QO mixed (Q6 QD Q5 _) (by trivial) (fun _=>rfl) (fun _=>rfl) (tl0▸(QB.cons rfl X1 (QB.cons rfl WY QB.nil))) Qe
def E0:Env:=⟨ty,QQ cl,JL [(0,l0),(1,l1),(2,l2)],none⟩
def m(x:gX):Option fY:=bif decide ((↑x.cols0.length:Int)>12) then Q2 (some PUnit.unit) fun y=>some true else Q2 (F10.m ⟨x.outs0,x.cols0⟩) fun y=>bif decide (0≤(↑y.2.length:Int))&&decide ((↑y.2.length:Int)≤(↑y.2.length:Int))&&decide ((↑y.2.length:Int)*(↑1:Int)≤281474976710656)&&decide ((↑y.2.length:Int)≤9223372036854775807) then bif decide (0≤(↑y.2.length:Int))&&decide ((↑y.2.length:Int)≤(↑y.2.length:Int))&&decide ((↑y.2.length:Int)*(↑1:Int)≤281474976710656)&&decide ((↑y.2.length:Int)≤9223372036854775807) then Q2 (iter s0 ⟨(↑y.2.length:Int),0,(↑y.2.length:Int).toNat,(↑y.2.length:Int).toNat,0,(↑y.2.length:Int).toNat,(↑y.2.length:Int).toNat,0,true,true,0,x.good,x.bad,x.mask,y.1,y.2,List.replicate (↑y.2.length:Int).toNat (0:Int),List.replicate (↑y.2.length:Int).toNat (0:Int)⟩) fun y=>Q2 (F13.m ⟨y.outs,y.cols,y.a,y.b,0⟩) fun y_1=>bif bif y_1.2 !=0 then true else bif y.many==0 then decide ((↑y_1.1.length:Int)>0) else false then some false else bif bif bif bif bif y.many==1 then true else y.many==2 then y.diff else false then (↑y_1.1.length:Int)==0 else false then true else bif bif y.many.tmod 2==1 then y.odd else false then (↑y_1.1.length:Int)==0 else false then some false else Q2 (some PUnit.unit) fun y=>some true else none else none
theorem QT(x:gX):exec E0 174 C5 0 (QX 0 (g.A x)) (g.H x) (finish 0 ty [.tmp 4] f)=m x:=by kernel_rfl
theorem tl:QI C5 0=[(0,C5.Q3 0)]:=by kernel_rfl
theorem known:QS Try.prog 5 g f m:=
 QC mixed (Q6 QD Q5 _) s5 rfl rfl tl (QB.cons rfl Qf QB.nil) (fun _ _=>⟨rfl,rfl⟩) (fun _ _=>⟨rfl,rfl⟩) QT
end F5
end Go.Proofs.Ytfcbahfdgopgfaa
namespace Go.Proofs.Ytfcbahfdgopgfaa
open Go.Abs
set_option maxRecDepth 100000
namespace F42
structure gX where
 x:Int
def g:Sg gX where
 vs:=[.c (.it .u64)]
 h:=[]
 to:=fun a b=>⟨a.1⟩
 fa:=fun x=>(x.x,())
 fh:=fun x=>()
abbrev fY:=Int
def f:Ft fY where
 ord:=none
 sh:=.c (.it .i64)
 h:=[]
 to:=fun a b=>(a)
 fv:=fun y=>y
 fh:=fun y=>()
def cl:List (FuncId×Con):=[]
theorem Q5:QM Try.prog cl:=trivial
def E0:Env:=⟨ty,QQ cl,fun _=>none,none⟩
def m(x:gX):Option fY:=some (IntKind.i64.wrap (↑(BitVec.ofInt 64 (IntKind.i64.wrap (IntKind.u64.wrap (IntKind.u64.wrap (IntKind.u64.wrap (IntKind.u64.wrap (↑(BitVec.ofInt 64 (IntKind.u64.wrap ((IntKind.u64.wrap (IntKind.u64.wrap (↑(BitVec.ofInt 64 ((IntKind.u64.wrap (IntKind.u64.wrap (↑(BitVec.ofInt 64 (x.x.fdiv (2^1))&&&BitVec.ofInt 64 6148914691236517205).toNat:Int)+IntKind.u64.wrap (↑(BitVec.ofInt 64 x.x&&&BitVec.ofInt 64 6148914691236517205).toNat:Int))).fdiv (2^2))&&&BitVec.ofInt 64 3689348814741910323).toNat:Int)+IntKind.u64.wrap (↑(BitVec.ofInt 64 (IntKind.u64.wrap (IntKind.u64.wrap (↑(BitVec.ofInt 64 (x.x.fdiv (2^1))&&&BitVec.ofInt 64 6148914691236517205).toNat:Int)+IntKind.u64.wrap (↑(BitVec.ofInt 64 x.x&&&BitVec.ofInt 64 6148914691236517205).toNat:Int)))&&&BitVec.ofInt 64 3689348814741910323).toNat:Int))).fdiv (2^4)+IntKind.u64.wrap (IntKind.u64.wrap (↑(BitVec.ofInt 64 ((IntKind.u64.wrap (IntKind.u64.wrap (↑(BitVec.ofInt 64 (x.x.fdiv (2^1))&&&BitVec.ofInt 64 6148914691236517205).toNat:Int)+IntKind.u64.wrap (↑(BitVec.ofInt 64 x.x&&&BitVec.ofInt 64 6148914691236517205).toNat:Int))).fdiv (2^2))&&&BitVec.ofInt 64 3689348814741910323).toNat:Int)+IntKind.u64.wrap (↑(BitVec.ofInt 64 (IntKind.u64.wrap (IntKind.u64.wrap (↑(BitVec.ofInt 64 (x.x.fdiv (2^1))&&&BitVec.ofInt 64 6148914691236517205).toNat:Int)+IntKind.u64.wrap (↑(BitVec.ofInt 64 x.x&&&BitVec.ofInt 64 6148914691236517205).toNat:Int)))&&&BitVec.ofInt 64 3689348814741910323).toNat:Int))))&&&BitVec.ofInt 64 1085102592571150095).toNat:Int)+(IntKind.u64.wrap (↑(BitVec.ofInt 64 (IntKind.u64.wrap ((IntKind.u64.wrap (IntKind.u64.wrap (↑(BitVec.ofInt 64 ((IntKind.u64.wrap (IntKind.u64.wrap (↑(BitVec.ofInt 64 (x.x.fdiv (2^1))&&&BitVec.ofInt 64 6148914691236517205).toNat:Int)+IntKind.u64.wrap (↑(BitVec.ofInt 64 x.x&&&BitVec.ofInt 64 6148914691236517205).toNat:Int))).fdiv (2^2))&&&BitVec.ofInt 64 3689348814741910323).toNat:Int)+IntKind.u64.wrap (↑(BitVec.ofInt 64 (IntKind.u64.wrap (IntKind.u64.wrap (↑(BitVec.ofInt 64 (x.x.fdiv (2^1))&&&BitVec.ofInt 64 6148914691236517205).toNat:Int)+IntKind.u64.wrap (↑(BitVec.ofInt 64 x.x&&&BitVec.ofInt 64 6148914691236517205).toNat:Int)))&&&BitVec.ofInt 64 3689348814741910323).toNat:Int))).fdiv (2^4)+IntKind.u64.wrap (IntKind.u64.wrap (↑(BitVec.ofInt 64 ((IntKind.u64.wrap (IntKind.u64.wrap (↑(BitVec.ofInt 64 (x.x.fdiv (2^1))&&&BitVec.ofInt 64 6148914691236517205).toNat:Int)+IntKind.u64.wrap (↑(BitVec.ofInt 64 x.x&&&BitVec.ofInt 64 6148914691236517205).toNat:Int))).fdiv (2^2))&&&BitVec.ofInt 64 3689348814741910323).toNat:Int)+IntKind.u64.wrap (↑(BitVec.ofInt 64 (IntKind.u64.wrap (IntKind.u64.wrap (↑(BitVec.ofInt 64 (x.x.fdiv (2^1))&&&BitVec.ofInt 64 6148914691236517205).toNat:Int)+IntKind.u64.wrap (↑(BitVec.ofInt 64 x.x&&&BitVec.ofInt 64 6148914691236517205).toNat:Int)))&&&BitVec.ofInt 64 3689348814741910323).toNat:Int))))&&&BitVec.ofInt 64 1085102592571150095).toNat:Int)).fdiv (2^8))+(IntKind.u64.wrap (IntKind.u64.wrap (↑(BitVec.ofInt 64 (IntKind.u64.wrap ((IntKind.u64.wrap (IntKind.u64.wrap (↑(BitVec.ofInt 64 ((IntKind.u64.wrap (IntKind.u64.wrap (↑(BitVec.ofInt 64 (x.x.fdiv (2^1))&&&BitVec.ofInt 64 6148914691236517205).toNat:Int)+IntKind.u64.wrap (↑(BitVec.ofInt 64 x.x&&&BitVec.ofInt 64 6148914691236517205).toNat:Int))).fdiv (2^2))&&&BitVec.ofInt 64 3689348814741910323).toNat:Int)+IntKind.u64.wrap (↑(BitVec.ofInt 64 (IntKind.u64.wrap (IntKind.u64.wrap (↑(BitVec.ofInt 64 (x.x.fdiv (2^1))&&&BitVec.ofInt 64 6148914691236517205).toNat:Int)+IntKind.u64.wrap (↑(BitVec.ofInt 64 x.x&&&BitVec.ofInt 64 6148914691236517205).toNat:Int)))&&&BitVec.ofInt 64 3689348814741910323).toNat:Int))).fdiv (2^4)+IntKind.u64.wrap (IntKind.u64.wrap (↑(BitVec.ofInt 64 ((IntKind.u64.wrap (IntKind.u64.wrap (↑(BitVec.ofInt 64 (x.x.fdiv (2^1))&&&BitVec.ofInt 64 6148914691236517205).toNat:Int)+IntKind.u64.wrap (↑(BitVec.ofInt 64 x.x&&&BitVec.ofInt 64 6148914691236517205).toNat:Int))).fdiv (2^2))&&&BitVec.ofInt 64 3689348814741910323).toNat:Int)+IntKind.u64.wrap (↑(BitVec.ofInt 64 (IntKind.u64.wrap (IntKind.u64.wrap (↑(BitVec.ofInt 64 (x.x.fdiv (2^1))&&&BitVec.ofInt 64 6148914691236517205).toNat:Int)+IntKind.u64.wrap (↑(BitVec.ofInt 64 x.x&&&BitVec.ofInt 64 6148914691236517205).toNat:Int)))&&&BitVec.ofInt 64 3689348814741910323).toNat:Int))))&&&BitVec.ofInt 64 1085102592571150095).toNat:Int)+(IntKind.u64.wrap (↑(BitVec.ofInt 64 (IntKind.u64.wrap ((IntKind.u64.wrap (IntKind.u64.wrap (↑(BitVec.ofInt 64 ((IntKind.u64.wrap (IntKind.u64.wrap (↑(BitVec.ofInt 64 (x.x.fdiv (2^1))&&&BitVec.ofInt 64 6148914691236517205).toNat:Int)+IntKind.u64.wrap (↑(BitVec.ofInt 64 x.x&&&BitVec.ofInt 64 6148914691236517205).toNat:Int))).fdiv (2^2))&&&BitVec.ofInt 64 3689348814741910323).toNat:Int)+IntKind.u64.wrap (↑(BitVec.ofInt 64 (IntKind.u64.wrap (IntKind.u64.wrap (↑(BitVec.ofInt 64 (x.x.fdiv (2^1))&&&BitVec.ofInt 64 6148914691236517205).toNat:Int)+IntKind.u64.wrap (↑(BitVec.ofInt 64 x.x&&&BitVec.ofInt 64 6148914691236517205).toNat:Int)))&&&BitVec.ofInt 64 3689348814741910323).toNat:Int))).fdiv (2^4)+IntKind.u64.wrap (IntKind.u64.wrap (↑(BitVec.ofInt 64 ((IntKind.u64.wrap (IntKind.u64.wrap (↑(BitVec.ofInt 64 (x.x.fdiv (2^1))&&&BitVec.ofInt 64 6148914691236517205).toNat:Int)+IntKind.u64.wrap (↑(BitVec.ofInt 64 x.x&&&BitVec.ofInt 64 6148914691236517205).toNat:Int))).fdiv (2^2))&&&BitVec.ofInt 64 3689348814741910323).toNat:Int)+IntKind.u64.wrap (↑(BitVec.ofInt 64 (IntKind.u64.wrap (IntKind.u64.wrap (↑(BitVec.ofInt 64 (x.x.fdiv (2^1))&&&BitVec.ofInt 64 6148914691236517205).toNat:Int)+IntKind.u64.wrap (↑(BitVec.ofInt 64 x.x&&&BitVec.ofInt 64 6148914691236517205).toNat:Int)))&&&BitVec.ofInt 64 3689348814741910323).toNat:Int))))&&&BitVec.ofInt 64 1085102592571150095).toNat:Int)).fdiv (2^8))).fdiv (2^16))+(IntKind.u64.wrap (IntKind.u64.wrap (IntKind.u64.wrap (↑(BitVec.ofInt 64 (IntKind.u64.wrap ((IntKind.u64.wrap (IntKind.u64.wrap (↑(BitVec.ofInt 64 ((IntKind.u64.wrap (IntKind.u64.wrap (↑(BitVec.ofInt 64 (x.x.fdiv (2^1))&&&BitVec.ofInt 64 6148914691236517205).toNat:Int)+IntKind.u64.wrap (↑(BitVec.ofInt 64 x.x&&&BitVec.ofInt 64 6148914691236517205).toNat:Int))).fdiv (2^2))&&&BitVec.ofInt 64 3689348814741910323).toNat:Int)+IntKind.u64.wrap (↑(BitVec.ofInt 64 (IntKind.u64.wrap (IntKind.u64.wrap (↑(BitVec.ofInt 64 (x.x.fdiv (2^1))&&&BitVec.ofInt 64 6148914691236517205).toNat:Int)+IntKind.u64.wrap (↑(BitVec.ofInt 64 x.x&&&BitVec.ofInt 64 6148914691236517205).toNat:Int)))&&&BitVec.ofInt 64 3689348814741910323).toNat:Int))).fdiv (2^4)+IntKind.u64.wrap (IntKind.u64.wrap (↑(BitVec.ofInt 64 ((IntKind.u64.wrap (IntKind.u64.wrap (↑(BitVec.ofInt 64 (x.x.fdiv (2^1))&&&BitVec.ofInt 64 6148914691236517205).toNat:Int)+IntKind.u64.wrap (↑(BitVec.ofInt 64 x.x&&&BitVec.ofInt 64 6148914691236517205).toNat:Int))).fdiv (2^2))&&&BitVec.ofInt 64 3689348814741910323).toNat:Int)+IntKind.u64.wrap (↑(BitVec.ofInt 64 (IntKind.u64.wrap (IntKind.u64.wrap (↑(BitVec.ofInt 64 (x.x.fdiv (2^1))&&&BitVec.ofInt 64 6148914691236517205).toNat:Int)+IntKind.u64.wrap (↑(BitVec.ofInt 64 x.x&&&BitVec.ofInt 64 6148914691236517205).toNat:Int)))&&&BitVec.ofInt 64 3689348814741910323).toNat:Int))))&&&BitVec.ofInt 64 1085102592571150095).toNat:Int)+(IntKind.u64.wrap (↑(BitVec.ofInt 64 (IntKind.u64.wrap ((IntKind.u64.wrap (IntKind.u64.wrap (↑(BitVec.ofInt 64 ((IntKind.u64.wrap (IntKind.u64.wrap (↑(BitVec.ofInt 64 (x.x.fdiv (2^1))&&&BitVec.ofInt 64 6148914691236517205).toNat:Int)+IntKind.u64.wrap (↑(BitVec.ofInt 64 x.x&&&BitVec.ofInt 64 6148914691236517205).toNat:Int))).fdiv (2^2))&&&BitVec.ofInt 64 3689348814741910323).toNat:Int)+IntKind.u64.wrap (↑(BitVec.ofInt 64 (IntKind.u64.wrap (IntKind.u64.wrap (↑(BitVec.ofInt 64 (x.x.fdiv (2^1))&&&BitVec.ofInt 64 6148914691236517205).toNat:Int)+IntKind.u64.wrap (↑(BitVec.ofInt 64 x.x&&&BitVec.ofInt 64 6148914691236517205).toNat:Int)))&&&BitVec.ofInt 64 3689348814741910323).toNat:Int))).fdiv (2^4)+IntKind.u64.wrap (IntKind.u64.wrap (↑(BitVec.ofInt 64 ((IntKind.u64.wrap (IntKind.u64.wrap (↑(BitVec.ofInt 64 (x.x.fdiv (2^1))&&&BitVec.ofInt 64 6148914691236517205).toNat:Int)+IntKind.u64.wrap (↑(BitVec.ofInt 64 x.x&&&BitVec.ofInt 64 6148914691236517205).toNat:Int))).fdiv (2^2))&&&BitVec.ofInt 64 3689348814741910323).toNat:Int)+IntKind.u64.wrap (↑(BitVec.ofInt 64 (IntKind.u64.wrap (IntKind.u64.wrap (↑(BitVec.ofInt 64 (x.x.fdiv (2^1))&&&BitVec.ofInt 64 6148914691236517205).toNat:Int)+IntKind.u64.wrap (↑(BitVec.ofInt 64 x.x&&&BitVec.ofInt 64 6148914691236517205).toNat:Int)))&&&BitVec.ofInt 64 3689348814741910323).toNat:Int))))&&&BitVec.ofInt 64 1085102592571150095).toNat:Int)).fdiv (2^8))+(IntKind.u64.wrap (IntKind.u64.wrap (↑(BitVec.ofInt 64 (IntKind.u64.wrap ((IntKind.u64.wrap (IntKind.u64.wrap (↑(BitVec.ofInt 64 ((IntKind.u64.wrap (IntKind.u64.wrap (↑(BitVec.ofInt 64 (x.x.fdiv (2^1))&&&BitVec.ofInt 64 6148914691236517205).toNat:Int)+IntKind.u64.wrap (↑(BitVec.ofInt 64 x.x&&&BitVec.ofInt 64 6148914691236517205).toNat:Int))).fdiv (2^2))&&&BitVec.ofInt 64 3689348814741910323).toNat:Int)+IntKind.u64.wrap (↑(BitVec.ofInt 64 (IntKind.u64.wrap (IntKind.u64.wrap (↑(BitVec.ofInt 64 (x.x.fdiv (2^1))&&&BitVec.ofInt 64 6148914691236517205).toNat:Int)+IntKind.u64.wrap (↑(BitVec.ofInt 64 x.x&&&BitVec.ofInt 64 6148914691236517205).toNat:Int)))&&&BitVec.ofInt 64 3689348814741910323).toNat:Int))).fdiv (2^4)+IntKind.u64.wrap (IntKind.u64.wrap (↑(BitVec.ofInt 64 ((IntKind.u64.wrap (IntKind.u64.wrap (↑(BitVec.ofInt 64 (x.x.fdiv (2^1))&&&BitVec.ofInt 64 6148914691236517205).toNat:Int)+IntKind.u64.wrap (↑(BitVec.ofInt 64 x.x&&&BitVec.ofInt 64 6148914691236517205).toNat:Int))).fdiv (2^2))&&&BitVec.ofInt 64 3689348814741910323).toNat:Int)+IntKind.u64.wrap (↑(BitVec.ofInt 64 (IntKind.u64.wrap (IntKind.u64.wrap (↑(BitVec.ofInt 64 (x.x.fdiv (2^1))&&&BitVec.ofInt 64 6148914691236517205).toNat:Int)+IntKind.u64.wrap (↑(BitVec.ofInt 64 x.x&&&BitVec.ofInt 64 6148914691236517205).toNat:Int)))&&&BitVec.ofInt 64 3689348814741910323).toNat:Int))))&&&BitVec.ofInt 64 1085102592571150095).toNat:Int)+(IntKind.u64.wrap (↑(BitVec.ofInt 64 (IntKind.u64.wrap ((IntKind.u64.wrap (IntKind.u64.wrap (↑(BitVec.ofInt 64 ((IntKind.u64.wrap (IntKind.u64.wrap (↑(BitVec.ofInt 64 (x.x.fdiv (2^1))&&&BitVec.ofInt 64 6148914691236517205).toNat:Int)+IntKind.u64.wrap (↑(BitVec.ofInt 64 x.x&&&BitVec.ofInt 64 6148914691236517205).toNat:Int))).fdiv (2^2))&&&BitVec.ofInt 64 3689348814741910323).toNat:Int)+IntKind.u64.wrap (↑(BitVec.ofInt 64 (IntKind.u64.wrap (IntKind.u64.wrap (↑(BitVec.ofInt 64 (x.x.fdiv (2^1))&&&BitVec.ofInt 64 6148914691236517205).toNat:Int)+IntKind.u64.wrap (↑(BitVec.ofInt 64 x.x&&&BitVec.ofInt 64 6148914691236517205).toNat:Int)))&&&BitVec.ofInt 64 3689348814741910323).toNat:Int))).fdiv (2^4)+IntKind.u64.wrap (IntKind.u64.wrap (↑(BitVec.ofInt 64 ((IntKind.u64.wrap (IntKind.u64.wrap (↑(BitVec.ofInt 64 (x.x.fdiv (2^1))&&&BitVec.ofInt 64 6148914691236517205).toNat:Int)+IntKind.u64.wrap (↑(BitVec.ofInt 64 x.x&&&BitVec.ofInt 64 6148914691236517205).toNat:Int))).fdiv (2^2))&&&BitVec.ofInt 64 3689348814741910323).toNat:Int)+IntKind.u64.wrap (↑(BitVec.ofInt 64 (IntKind.u64.wrap (IntKind.u64.wrap (↑(BitVec.ofInt 64 (x.x.fdiv (2^1))&&&BitVec.ofInt 64 6148914691236517205).toNat:Int)+IntKind.u64.wrap (↑(BitVec.ofInt 64 x.x&&&BitVec.ofInt 64 6148914691236517205).toNat:Int)))&&&BitVec.ofInt 64 3689348814741910323).toNat:Int))))&&&BitVec.ofInt 64 1085102592571150095).toNat:Int)).fdiv (2^8))).fdiv (2^16))).fdiv (2^32))))&&&BitVec.ofInt 64 127).toNat:Int))
theorem QT(x:gX):exec E0 35 C42 0 (QX 0 (g.A x)) (g.H x) (finish 0 ty [.tmp 2] f)=m x:=by kernel_rfl
theorem tl:QI C42 0=[]:=by kernel_rfl
theorem known:QS Try.prog 42 g f m:=
 QC mixed (Q6 QD Q5 _) s42 rfl rfl tl QB.nil (fun _ _=>⟨rfl,rfl⟩) (fun _ _=>⟨rfl,rfl⟩) QT
def con:Con:=X4 g f m default
theorem Q4:QU Try.prog 42 con:=Qd known (fun _=>rfl) rfl
end F42
namespace F39
structure gX where
 x:Int
def g:Sg gX where
 vs:=[.c (.it .u64)]
 h:=[]
 to:=fun a b=>⟨a.1⟩
 fa:=fun x=>(x.x,())
 fh:=fun x=>()
abbrev fY:=Int
def f:Ft fY where
 ord:=none
 sh:=.c (.it .u64)
 h:=[]
 to:=fun a b=>(a)
 fv:=fun y=>y
 fh:=fun y=>()
def cl:List (FuncId×Con):=[(42,F42.con)]
theorem Q5:QM Try.prog cl:=⟨F42.Q4,trivial⟩
def E0:Env:=⟨ty,QQ cl,fun _=>none,none⟩
def m(x:gX):Option fY:=Q2 (F42.m ⟨x.x⟩) fun y=>some (IntKind.u64.wrap (Int.tmod y 2))
theorem QT(x:gX):exec E0 7 C39 0 (QX 0 (g.A x)) (g.H x) (finish 0 ty [.tmp 2] f)=m x:=by kernel_rfl
theorem tl:QI C39 0=[]:=by kernel_rfl
theorem known:QS Try.prog 39 g f m:=
 QC mixed (Q6 QD Q5 _) s39 rfl rfl tl QB.nil (fun _ _=>⟨rfl,rfl⟩) (fun _ _=>⟨rfl,rfl⟩) QT
def con:Con:=X4 g f m default
theorem Q4:QU Try.prog 39 con:=Qd known (fun _=>rfl) rfl
end F39
namespace F38
structure gX where
 x:Int
 n:Int
def g:Sg gX where
 vs:=[.c (.it .u64),.c (.it .i64)]
 h:=[]
 to:=fun a b=>⟨a.1,a.2.1⟩
 fa:=fun x=>(x.x,(x.n,()))
 fh:=fun x=>()
abbrev fY:=Bool
def f:Ft fY where
 ord:=none
 sh:=.c (.bo)
 h:=[]
 to:=fun a b=>(a)
 fv:=fun y=>y
 fh:=fun y=>()
def cl:List (FuncId×Con):=[]
theorem Q5:QM Try.prog cl:=trivial
def E0:Env:=⟨ty,QQ cl,fun _=>none,none⟩
def m(x:gX):Option fY:=bif decide (0≤x.n)||!decide (x.n<64) then some (bif decide (x.n<64) then x.x.fdiv (2^min x.n.toNat 64) !=0 else false) else none
theorem QT(x:gX):exec E0 13 C38 0 (QX 0 (g.A x)) (g.H x) (finish 0 ty [.tmp 4] f)=m x:=by kernel_rfl
theorem tl:QI C38 0=[]:=by kernel_rfl
theorem known:QS Try.prog 38 g f m:=
 QC mixed (Q6 QD Q5 _) s38 rfl rfl tl QB.nil (fun _ _=>⟨rfl,rfl⟩) (fun _ _=>⟨rfl,rfl⟩) QT
def con:Con:=X4 g f m default
theorem Q4:QU Try.prog 38 con:=Qd known (fun _=>rfl) rfl
end F38
namespace F33
structure gX where
 N:Int
 taps:Int
def g:Sg gX where
 vs:=[.agg [.it .i64,.it .u64]]
 h:=[]
 to:=fun a b=>⟨a.1.1,a.1.2.1⟩
 fa:=fun x=>((x.N,(x.taps,())),())
 fh:=fun x=>()
abbrev fY:=Int
def f:Ft fY where
 ord:=none
 sh:=.c (.it .i64)
 h:=[]
 to:=fun a b=>(a)
 fv:=fun y=>y
 fh:=fun y=>()
def cl:List (FuncId×Con):=[(38,F38.con)]
theorem Q5:QM Try.prog cl:=⟨F38.Q4,trivial⟩
def E0:Env:=⟨ty,QQ cl,fun _=>none,none⟩
def m(x:gX):Option fY:=bif decide (x.N<1) then some 1 else bif decide (x.N>64) then some 3 else Q2 (F38.m ⟨x.taps,x.N⟩) fun y=>bif decide (0≤IntKind.i64.wrap (x.N - 1))||!!y then bif bif y then true else x.taps.fdiv (2^min (IntKind.i64.wrap (x.N - 1)).toNat 64)==0 then some 1 else some 0 else none
theorem QT(x:gX):exec E0 26 C33 0 (QX 0 (g.A x)) (g.H x) (finish 0 ty [.tmp 2] f)=m x:=by kernel_rfl
theorem tl:QI C33 0=[]:=by kernel_rfl
theorem known:QS Try.prog 33 g f m:=
 QC mixed (Q6 QD Q5 _) s33 rfl rfl tl QB.nil (fun _ _=>⟨rfl,rfl⟩) (fun _ _=>⟨rfl,rfl⟩) QT
def con:Con:=X4 g f m default
theorem Q4:QU Try.prog 33 con:=Qd known (fun _=>rfl) rfl
end F33
namespace F31
structure gX where
 N:Int
 taps:Int
 state:Int
def g:Sg gX where
 vs:=[.agg [.it .i64,.it .u64],.c (.it .u64)]
 h:=[]
 to:=fun a b=>⟨a.1.1,a.1.2.1,a.2.1⟩
 fa:=fun x=>((x.N,(x.taps,())),(x.state,()))
 fh:=fun x=>()
abbrev fY:=Int×Int×Int×Int
def f:Ft fY where
 ord:=none
 sh:=.tup [.inr [.it .i64,.it .u64,.it .u64],.inl (.it .i64)]
 h:=[]
 to:=fun a b=>(a.1.1,a.1.2.1,a.1.2.2.1,a.2.1)
 fv:=fun y=>((y.1,(y.2.1,(y.2.2.1,()))),(y.2.2.2,()))
 fh:=fun y=>()
def cl:List (FuncId×Con):=[(33,F33.con),(38,F38.con)]
theorem Q5:QM Try.prog cl:=⟨F33.Q4,F38.Q4,trivial⟩
def E0:Env:=⟨ty,QQ cl,fun _=>none,none⟩
def m(x:gX):Option fY:=Q2 (F33.m ⟨x.N,x.taps⟩) fun y=>bif y !=0 then some (0,0,0,y) else Q2 (F38.m ⟨x.state,x.N⟩) fun y=>bif y then some (0,0,0,1) else some (x.N,x.taps,x.state,0)
theorem QT(x:gX):exec E0 21 C31 0 (QX 0 (g.A x)) (g.H x) (finish 0 ty [.cell 4 75,.tmp 5] f)=m x:=by kernel_rfl
theorem tl:QI C31 0=[]:=by kernel_rfl
theorem known:QS Try.prog 31 g f m:=
 QC mixed (Q6 QD Q5 _) s31 rfl rfl tl QB.nil (fun _ _=>⟨rfl,rfl⟩) (fun _ _=>⟨rfl,rfl⟩) QT
def con:Con:=X4 g f m default
theorem Q4:QU Try.prog 31 con:=Qd known (fun _=>rfl) rfl
end F31
namespace F32
structure gX where
 N:Int
 taps:Int
 state:Int
def g:Sg gX where
 vs:=[.c (.ptr 0 0)]
 h:=[.st [.it .i64,.it .u64,.it .u64] 1 0]
 to:=fun a b=>⟨b.1.1,b.1.2.1,b.1.2.2.1⟩
 fa:=fun x=>((),())
 fh:=fun x=>((x.N,(x.taps,(x.state,()))),())
abbrev fY:=Int×Int×Int
def f:Ft fY where
 ord:=none
 sh:=.tup []
 h:=[.st [.it .i64,.it .u64,.it .u64] 1 0]
 to:=fun a b=>(b.1.1,b.1.2.1,b.1.2.2.1)
 fv:=fun y=>()
 fh:=fun y=>((y.1,(y.2.1,(y.2.2,()))),())
def cl:List (FuncId×Con):=[(39,F39.con)]
theorem Q5:QM Try.prog cl:=⟨F39.Q4,trivial⟩
def E0:Env:=⟨ty,QQ cl,fun _=>none,none⟩
def m(x:gX):Option fY:=Q2 (F39.m ⟨IntKind.u64.wrap (↑(BitVec.ofInt 64 x.state&&&BitVec.ofInt 64 x.taps).toNat:Int)⟩) fun y=>bif decide (x.N<64) then bif decide (0≤x.N) then some (x.N,x.taps,IntKind.u64.wrap (↑(BitVec.ofInt 64 (IntKind.u64.wrap (↑(BitVec.ofInt 64 (IntKind.u64.wrap (x.state*2^1))|||BitVec.ofInt 64 y).toNat:Int))&&&BitVec.ofInt 64 (IntKind.u64.wrap (IntKind.u64.wrap (1*2^min x.N.toNat 64) - 1))).toNat:Int)) else none else some (x.N,x.taps,IntKind.u64.wrap (↑(BitVec.ofInt 64 (IntKind.u64.wrap (x.state*2^1))|||BitVec.ofInt 64 y).toNat:Int))
theorem QT(x:gX):exec E0 42 C32 0 (QX 0 (g.A x)) (g.H x) (finish 1 ty [] f)=m x:=by kernel_rfl
theorem tl:QI C32 0=[]:=by kernel_rfl
theorem known:QS Try.prog 32 g f m:=
 QC mixed (Q6 QD Q5 _) s32 rfl rfl tl QB.nil (fun _ _=>⟨rfl,rfl⟩) (fun _ _=>⟨rfl,rfl⟩) QT
def con:Con:=conG g [.arg 0 0] f m default
theorem Q4:QU Try.prog 32 con:=V8 known
end F32
namespace F20
structure gX where
 N:Int
 taps:Int
 state:Int
def g:Sg gX where
 vs:=[.agg [.it .i64,.it .u64],.c (.it .u64)]
 h:=[]
 to:=fun a b=>⟨a.1.1,a.1.2.1,a.2.1⟩
 fa:=fun x=>((x.N,(x.taps,())),(x.state,()))
 fh:=fun x=>()
abbrev fY:=Int×Int
def f:Ft fY where
 ord:=none
 sh:=.tup [.inl (.it .u64),.inl (.it .i64)]
 h:=[]
 to:=fun a b=>(a.1,a.2.1)
 fv:=fun y=>(y.1,(y.2,()))
 fh:=fun y=>()
def cl:List (FuncId×Con):=[(31,F31.con),(32,F32.con)]
theorem Q5:QM Try.prog cl:=⟨F31.Q4,F32.Q4,trivial⟩
def E0:Env:=⟨ty,QQ cl,fun _=>none,none⟩
def m(x:gX):Option fY:=Q2 (F31.m ⟨x.N,x.taps,x.state⟩) fun y=>bif y.2.2.2 !=0 then some (0,y.2.2.2) else Q2 (F32.m ⟨y.1,y.2.1,y.2.2.1⟩) fun y=>some (y.2.2,0)
theorem QT(x:gX):exec E0 20 C20 0 (QX 0 (g.A x)) (g.H x) (finish 0 ty [.tmp 4,.tmp 5] f)=m x:=by kernel_rfl
theorem tl:QI C20 0=[]:=by kernel_rfl
theorem known:QS Try.prog 20 g f m:=
 QC mixed (Q6 QD Q5 _) s20 rfl rfl tl QB.nil (fun _ _=>⟨rfl,rfl⟩) (fun _ _=>⟨rfl,rfl⟩) QT
def con:Con:=X4 g f m default
theorem Q4:QU Try.prog 20 con:=Qd known (fun _=>rfl) rfl
end F20
namespace F19
structure gX where
 n0:Int
 taps0:Int
def g:Sg gX where
 vs:=[.agg [.it .u8,.it .u64]]
 h:=[]
 to:=fun a b=>⟨a.1.1,a.1.2.1⟩
 fa:=fun x=>((x.n0,(x.taps0,())),())
 fh:=fun x=>()
abbrev fY:=Int×Int
def f:Ft fY where
 ord:=none
 sh:=.agg [.it .i64,.it .u64]
 h:=[]
 to:=fun a b=>(a.1,a.2.1)
 fv:=fun y=>(y.1,(y.2,()))
 fh:=fun y=>()
def cl:List (FuncId×Con):=[]
theorem Q5:QM Try.prog cl:=trivial
def E0:Env:=⟨ty,QQ cl,fun _=>none,none⟩
def m(x:gX):Option fY:=bif decide (0≤IntKind.i64.wrap (1+IntKind.i64.wrap (x.n0.tmod 16))) then bif nz (IntKind.u64.wrap (1*2^min (IntKind.i64.wrap (1+IntKind.i64.wrap (x.n0.tmod 16))).toNat 64)) then bif decide (0≤IntKind.i64.wrap (IntKind.i64.wrap (1+IntKind.i64.wrap (x.n0.tmod 16)) - 1)) then some (IntKind.i64.wrap (1+IntKind.i64.wrap (x.n0.tmod 16)),IntKind.u64.wrap (↑(BitVec.ofInt 64 (x.taps0.tmod (IntKind.u64.wrap (1*2^min (IntKind.i64.wrap (1+IntKind.i64.wrap (x.n0.tmod 16))).toNat 64)))|||BitVec.ofInt 64 (IntKind.u64.wrap (1*2^min (IntKind.i64.wrap (IntKind.i64.wrap (1+IntKind.i64.wrap (x.n0.tmod 16)) - 1)).toNat 64))).toNat:Int)) else none else none else none
theorem QT(x:gX):exec E0 20 C19 0 (QX 0 (g.A x)) (g.H x) (finish 0 ty [.cell 2 59] f)=m x:=by kernel_rfl
theorem tl:QI C19 0=[]:=by kernel_rfl
theorem known:QS Try.prog 19 g f m:=
 QC mixed (Q6 QD Q5 _) s19 rfl rfl tl QB.nil (fun _ _=>⟨rfl,rfl⟩) (fun _ _=>⟨rfl,rfl⟩) QT
def con:Con:=X4 g f m default
theorem Q4:QU Try.prog 19 con:=Qd known (fun _=>rfl) rfl
end F19
namespace F21
structure gX where
 N:Int
 taps:Int
 state:Int
 in0:List (Int)
def g:Sg gX where
 vs:=[.agg [.it .i64,.it .u64],.c (.it .u64),.c (.arr (.int .u64))]
 h:=[]
 to:=fun a b=>⟨a.1.1,a.1.2.1,a.2.1,a.2.2.1⟩
 fa:=fun x=>((x.N,(x.taps,())),(x.state,(x.in0,())))
 fh:=fun x=>()
abbrev fY:=Int×Int
def f:Ft fY where
 ord:=none
 sh:=.tup [.inl (.it .u64),.inl (.it .i64)]
 h:=[]
 to:=fun a b=>(a.1,a.2.1)
 fv:=fun y=>(y.1,(y.2,()))
 fh:=fun y=>()
def cl:List (FuncId×Con):=[(33,F33.con),(27,F27.con),(20,F20.con)]
theorem Q5:QM Try.prog cl:=⟨F33.Q4,F27.Q4,F20.Q4,trivial⟩
def E2:Env:=⟨ty,QQ cl,fun _=>none,none⟩
structure p1X where
 state:Int
 in1:List (Int)
 n:Int
 i:Int
 N:Int
 taps:Int
def p1:Pt p1X where
 own:=[]
 t:=⟨[(1,.c (.it .u64)),(3,.c (.ptr 0 0)),(34,.c (.arr (.int .u64))),(35,.c (.it .i64)),(36,.c (.it .i64))],[.st [.it .i64,.it .u64] 1 0]⟩
 to:=fun v=>⟨v.1.1,v.1.2.2.1,v.1.2.2.2.1,v.1.2.2.2.2.1,v.2.1.1,v.2.1.2.1⟩
 fr:=fun x=>((x.state,((),(x.in1,(x.n,(x.i,()))))),((x.N,(x.taps,())),()))
structure q1X where
 state:Int
def q1:Pt q1X where
 own:=[]
 t:=⟨[(1,.c (.it .u64))],[]⟩
 to:=fun v=>⟨v.1.1⟩
 fr:=fun x=>((x.state,()),())
def s1(x:p1X):Option (p1X⊕q1X):=bif decide (x.i<x.n) then bif inR x.i x.in1.length then Q2 (F20.m ⟨x.N,x.taps,x.state⟩) fun y=>some (Sum.inl ⟨IntKind.u64.wrap (↑(BitVec.ofInt 64 y.1^^^BitVec.ofInt 64 (x.in1[x.i.toNat]?.getD 0)).toNat:Int),x.in1,x.n,IntKind.i64.wrap (x.i+1),x.N,x.taps⟩) else none else some (Sum.inr ⟨x.state⟩)
theorem Jz(x:p1X):exec E2 51 (C21.Q3 1) 2 (p1.R x) (p1.H x) (Qt 0 p1 (.exit 2) q1)=s1 x:=by kernel_rfl
def l1:QN:=Qu 0 p1 (.exit 2) q1 s1
theorem tl1:QI (C21.Q3 1) 2=[]:=by kernel_rfl
theorem X1  :QG Try.prog 51 none 0 (C21.Q3 1) l1:=QO mixed (Q6 QD Q5 _) (by trivial) (fun _=>rfl) (fun _=>rfl) (tl1▸QB.nil) Jz
def E1:Env:=⟨ty,QQ cl,JL [(1,l1)],none⟩
structure p0X where
 state:Int
 in1:List (Int)
 w:List (Int)
 n:Int
 i:Int
 N:Int
 taps:Int
def p0:Pt p0X where
 own:=[]
 t:=⟨[(1,.c (.it .u64)),(2,.c (.arr (.int .u64))),(3,.c (.ptr 0 0)),(23,.c (.arr (.int .u64))),(24,.c (.it .i64)),(25,.c (.it .i64))],[.st [.it .i64,.it .u64] 1 0]⟩
 to:=fun v=>⟨v.1.1,v.1.2.1,v.1.2.2.2.1,v.1.2.2.2.2.1,v.1.2.2.2.2.2.1,v.2.1.1,v.2.1.2.1⟩
 fr:=fun x=>((x.state,(x.in1,((),(x.w,(x.n,(x.i,())))))),((x.N,(x.taps,())),()))
structure q0X where
 state:Int
 in1:List (Int)
 N:Int
 taps:Int
def q0:Pt q0X where
 own:=[]
 t:=⟨[(1,.c (.it .u64)),(2,.c (.arr (.int .u64))),(3,.c (.ptr 0 0))],[.st [.it .i64,.it .u64] 1 0]⟩
 to:=fun v=>⟨v.1.1,v.1.2.1,v.2.1.1,v.2.1.2.1⟩
 fr:=fun x=>((x.state,(x.in1,((),()))),((x.N,(x.taps,())),()))
structure z0X where
 r:Int
 e:Int
def z0:Pt z0X where
 own:=[]
 t:=⟨[(6,.c (.it .u64)),(7,.c (.it .i64))],[]⟩
 to:=fun v=>⟨v.1.1,v.1.2.1⟩
 fr:=fun x=>((x.r,(x.e,())),())
def s0(x:p0X):Option (p0X⊕(q0X⊕z0X)):=bif decide (x.i<x.n) then bif inR x.i x.w.length then Q2 (F27.m ⟨x.w[x.i.toNat]?.getD 0,x.N⟩) fun y=>bif y then some (Sum.inr (Sum.inr ⟨0,1⟩)) else some (Sum.inl ⟨x.state,x.in1,x.w,x.n,IntKind.i64.wrap (x.i+1),x.N,x.taps⟩) else none else some (Sum.inr (Sum.inl ⟨x.state,x.in1,x.N,x.taps⟩))
theorem Qe(x:p0X):exec E1 51 (C21.Q3 0) 1 (p0.R x) (p0.H x) (JH 0 p0 (.exit 0) q0 .ret z0)=s0 x:=by kernel_rfl
def l0:QN:=JE 0 p0 (.exit 0) q0 .ret z0 s0
theorem tl0:QI (C21.Q3 0) 1=[]:=by kernel_rfl
theorem Qf  :QG Try.prog 51 none 0 (C21.Q3 0) l0:=Qg mixed (Q6 QD Q5 _) (by trivial) (by trivial) (fun _=>rfl) (fun _=>rfl) (fun _=>rfl) (tl0▸QB.nil) Qe
def E0:Env:=⟨ty,QQ cl,JL [(0,l0),(1,l1)],none⟩
def m(x:gX):Option fY:=Q2 (F33.m ⟨x.N,x.taps⟩) fun y=>bif y !=0 then some (0,y) else bif (!eqN x.in0.length 0||false)&&QP (1+x.in0.length) 8 then bif leB (0+(1+x.in0.length)) ([x.state]++x.in0).length&&true&&true then Q2 (iter s0 ⟨x.state,x.in0,List.take (1+x.in0.length) (List.drop 0 ([x.state]++x.in0)),(↑(1+x.in0.length):Int),0,x.N,x.taps⟩) fun s=>JK s (fun y=>Q2 (iter s1 ⟨y.state,y.in1,(↑y.in1.length:Int),0,y.N,y.taps⟩) fun y=>some (y.state,0)) fun z=>some (z.r,z.e) else none else none
theorem QT(x:gX):exec E0 51 C21 0 (QX 0 (g.A x)) (g.H x) (finish 0 ty [.tmp 6,.tmp 7] f)=m x:=by kernel_rfl
theorem tl:QI C21 0=[(0,C21.Q3 0),(1,C21.Q3 1)]:=by kernel_rfl
theorem known:QS Try.prog 21 g f m:=
 QC mixed (Q6 QD Q5 _) s21 rfl rfl tl (QB.cons rfl Qf (QB.cons rfl X1 QB.nil)) (fun _ _=>⟨rfl,rfl⟩) (fun _ _=>⟨rfl,rfl⟩) QT
def con:Con:=X4 g f m default
theorem Q4:QU Try.prog 21 con:=Qd known (fun _=>rfl) rfl
end F21
namespace F21z
structure gX where
 N:Int
 taps:Int
 state:Int
def g:Sg gX where
 vs:=[.agg [.it .i64,.it .u64],.c (.it .u64),.c (.nils)]
 h:=[]
 to:=fun a b=>⟨a.1.1,a.1.2.1,a.2.1⟩
 fa:=fun x=>((x.N,(x.taps,())),(x.state,((),())))
 fh:=fun x=>()
abbrev fY:=Int×Int
def f:Ft fY where
 ord:=none
 sh:=.tup [.inl (.it .u64),.inl (.it .i64)]
 h:=[]
 to:=fun a b=>(a.1,a.2.1)
 fv:=fun y=>(y.1,(y.2,()))
 fh:=fun y=>()
def cl:List (FuncId×Con):=[(33,F33.con),(27,F27.con),(20,F20.con)]
theorem Q5:QM Try.prog cl:=⟨F33.Q4,F27.Q4,F20.Q4,trivial⟩
def E2:Env:=⟨ty,QQ cl,fun _=>none,none⟩
structure p1X where
 state:Int
 n:Int
 i:Int
 N:Int
 taps:Int
def p1:Pt p1X where
 own:=[]
 t:=⟨[(1,.c (.it .u64)),(3,.c (.ptr 0 0)),(34,.c (.nils)),(35,.c (.it .i64)),(36,.c (.it .i64))],[.st [.it .i64,.it .u64] 1 0]⟩
 to:=fun v=>⟨v.1.1,v.1.2.2.2.1,v.1.2.2.2.2.1,v.2.1.1,v.2.1.2.1⟩
 fr:=fun x=>((x.state,((),((),(x.n,(x.i,()))))),((x.N,(x.taps,())),()))
structure q1X where
 state:Int
def q1:Pt q1X where
 own:=[]
 t:=⟨[(1,.c (.it .u64))],[]⟩
 to:=fun v=>⟨v.1.1⟩
 fr:=fun x=>((x.state,()),())
def s1(x:p1X):Option (p1X⊕q1X):=bif decide (x.i<x.n) then none else some (Sum.inr ⟨x.state⟩)
theorem Jz(x:p1X):exec E2 51 (C21.Q3 1) 2 (p1.R x) (p1.H x) (Qt 0 p1 (.exit 2) q1)=s1 x:=by kernel_rfl
def l1:QN:=Qu 0 p1 (.exit 2) q1 s1
theorem tl1:QI (C21.Q3 1) 2=[]:=by kernel_rfl
theorem X1  :QG Try.prog 51 none 0 (C21.Q3 1) l1:=QO mixed (Q6 QD Q5 _) (by trivial) (fun _=>rfl) (fun _=>rfl) (tl1▸QB.nil) Jz
def E1:Env:=⟨ty,QQ cl,JL [(1,l1)],none⟩
structure p0X where
 state:Int
 w:List (Int)
 n:Int
 i:Int
 N:Int
 taps:Int
def p0:Pt p0X where
 own:=[]
 t:=⟨[(1,.c (.it .u64)),(2,.c (.nils)),(3,.c (.ptr 0 0)),(23,.c (.arr (.int .u64))),(24,.c (.it .i64)),(25,.c (.it .i64))],[.st [.it .i64,.it .u64] 1 0]⟩
 to:=fun v=>⟨v.1.1,v.1.2.2.2.1,v.1.2.2.2.2.1,v.1.2.2.2.2.2.1,v.2.1.1,v.2.1.2.1⟩
 fr:=fun x=>((x.state,((),((),(x.w,(x.n,(x.i,())))))),((x.N,(x.taps,())),()))
structure q0X where
 state:Int
 N:Int
 taps:Int
def q0:Pt q0X where
 own:=[]
 t:=⟨[(1,.c (.it .u64)),(2,.c (.nils)),(3,.c (.ptr 0 0))],[.st [.it .i64,.it .u64] 1 0]⟩
 to:=fun v=>⟨v.1.1,v.2.1.1,v.2.1.2.1⟩
 fr:=fun x=>((x.state,((),((),()))),((x.N,(x.taps,())),()))
structure z0X where
 r:Int
 e:Int
def z0:Pt z0X where
 own:=[]
 t:=⟨[(6,.c (.it .u64)),(7,.c (.it .i64))],[]⟩
 to:=fun v=>⟨v.1.1,v.1.2.1⟩
 fr:=fun x=>((x.r,(x.e,())),())
def s0(x:p0X):Option (p0X⊕(q0X⊕z0X)):=bif decide (x.i<x.n) then bif inR x.i x.w.length then Q2 (F27.m ⟨x.w[x.i.toNat]?.getD 0,x.N⟩) fun y=>bif y then some (Sum.inr (Sum.inr ⟨0,1⟩)) else some (Sum.inl ⟨x.state,x.w,x.n,IntKind.i64.wrap (x.i+1),x.N,x.taps⟩) else none else some (Sum.inr (Sum.inl ⟨x.state,x.N,x.taps⟩))
theorem Qe(x:p0X):exec E1 51 (C21.Q3 0) 1 (p0.R x) (p0.H x) (JH 0 p0 (.exit 0) q0 .ret z0)=s0 x:=by kernel_rfl
def l0:QN:=JE 0 p0 (.exit 0) q0 .ret z0 s0
theorem tl0:QI (C21.Q3 0) 1=[]:=by kernel_rfl
theorem Qf  :QG Try.prog 51 none 0 (C21.Q3 0) l0:=Qg mixed (Q6 QD Q5 _) (by trivial) (by trivial) (fun _=>rfl) (fun _=>rfl) (fun _=>rfl) (tl0▸QB.nil) Qe
def E0:Env:=⟨ty,QQ cl,JL [(0,l0),(1,l1)],none⟩
def m(x:gX):Option fY:=Q2 (F33.m ⟨x.N,x.taps⟩) fun y=>bif y !=0 then some (0,y) else Q2 (iter s0 ⟨x.state,[x.state],(↑1:Int),0,x.N,x.taps⟩) fun s=>JK s (fun y=>Q2 (iter s1 ⟨y.state,(↑0:Int),0,y.N,y.taps⟩) fun y=>some (y.state,0)) fun z=>some (z.r,z.e)
theorem QT(x:gX):exec E0 51 C21 0 (QX 0 (g.A x)) (g.H x) (finish 0 ty [.tmp 6,.tmp 7] f)=m x:=by kernel_rfl
theorem tl:QI C21 0=[(0,C21.Q3 0),(1,C21.Q3 1)]:=by kernel_rfl
theorem known:QS Try.prog 21 g f m:=
 QC mixed (Q6 QD Q5 _) s21 rfl rfl tl (QB.cons rfl Qf (QB.cons rfl X1 QB.nil)) (fun _ _=>⟨rfl,rfl⟩) (fun _ _=>⟨rfl,rfl⟩) QT
def con:Con:=X4 g f m default
theorem Q4:QU Try.prog 21 con:=Qd known (fun _=>rfl) rfl
end F21z
end Go.Proofs.Ytfcbahfdgopgfaa
namespace Go.Proofs.Ytfcbahfdgopgfaa
open Go.Abs
set_option maxRecDepth 100000
namespace F7
structure gX where
 n0:Int
 taps0:Int
 l0:List (Int)
 l1:List (Int)
 pos:Int
def g:Sg gX where
 vs:=[.agg [.it .u8,.it .u64],.agg [.arr (.int .u64),.arr (.int .u64)],.c (.it .u8)]
 h:=[]
 to:=fun a b=>⟨a.1.1,a.1.2.1,a.2.1.1,a.2.1.2.1,a.2.2.1⟩
 fa:=fun x=>((x.n0,(x.taps0,())),((x.l0,(x.l1,())),(x.pos,())))
 fh:=fun x=>()
abbrev fY:=Bool
def f:Ft fY where
 ord:=none
 sh:=.c (.bo)
 h:=[]
 to:=fun a b=>(a)
 fv:=fun y=>y
 fh:=fun y=>()
def cl:List (FuncId×Con):=[(9,F9.con),(19,F19.con),(20,F20.con),(21,F21.con)]
theorem Q5:QM Try.prog cl:=⟨F9.Q4,F19.Q4,F20.Q4,F21.Q4,trivial⟩
def E1:Env:=⟨ty,QQ cl,fun _=>none,none⟩
structure p0X where
 pos:Int
 n:Int
 a_lo:Nat
 a_len:Nat
 b_lo:Nat
 b_len:Nat
 sum_lo:Nat
 sum_len:Nat
 oth_lo:Nat
 oth_len:Nat
 state:Int
 i:Int
 l0:List (Int)
 l1:List (Int)
 N:Int
 taps:Int
 aa:List (Int)
 bb:List (Int)
 sq:List (Int)
 ot:List (Int)
def p0:Pt p0X where
 own:=[.reg 9 (.int .u64),.reg 10 (.int .u64),.reg 11 (.int .u64),.reg 12 (.int .u64)]
 t:=⟨[(2,.c (.it .u8)),(4,.c (.ptr 1 0)),(7,.c (.ptr 2 0)),(8,.c (.it .i64)),(9,.c (.sl 3 0 1)),(10,.c (.sl 4 0 1)),(11,.c (.sl 5 0 1)),(12,.c (.sl 6 0 1)),(13,.c (.it .u64)),(14,.c (.it .i64))],[.st [.junk,.junk] 1 0,.st [.arr (.int .u64),.arr (.int .u64)] 1 0,.st [.it .i64,.it .u64] 1 0,.arr (.int .u64) 0,.arr (.int .u64) 0,.arr (.int .u64) 0,.arr (.int .u64) 0]⟩
 to:=fun v=>⟨v.1.1,v.1.2.2.2.1,v.1.2.2.2.2.1.1,v.1.2.2.2.2.1.2,v.1.2.2.2.2.2.1.1,v.1.2.2.2.2.2.1.2,v.1.2.2.2.2.2.2.1.1,v.1.2.2.2.2.2.2.1.2,v.1.2.2.2.2.2.2.2.1.1,v.1.2.2.2.2.2.2.2.1.2,v.1.2.2.2.2.2.2.2.2.1,v.1.2.2.2.2.2.2.2.2.2.1,v.2.2.1.1,v.2.2.1.2.1,v.2.2.2.1.1,v.2.2.2.1.2.1,v.2.2.2.2.1,v.2.2.2.2.2.1,v.2.2.2.2.2.2.1,v.2.2.2.2.2.2.2.1⟩
 fr:=fun x=>((x.pos,((),((),(x.n,((x.a_lo,x.a_len),((x.b_lo,x.b_len),((x.sum_lo,x.sum_len),((x.oth_lo,x.oth_len),(x.state,(x.i,())))))))))),(((),((),())),((x.l0,(x.l1,())),((x.N,(x.taps,())),(x.aa,(x.bb,(x.sq,(x.ot,()))))))))
structure q0X where
 n:Int
 a:List (Int)
 b:List (Int)
 sum:List (Int)
 oth:List (Int)
 state:Int
 N:Int
 taps:Int
def q0:Pt q0X where
 own:=[]
 t:=⟨[(7,.c (.ptr 2 0)),(8,.c (.it .i64)),(9,.c (.arr (.int .u64))),(10,.c (.arr (.int .u64))),(11,.c (.arr (.int .u64))),(12,.c (.arr (.int .u64))),(13,.c (.it .u64))],[.st [.junk,.junk] 1 0,.st [.junk,.junk] 1 0,.st [.it .i64,.it .u64] 1 0]⟩
 to:=fun v=>⟨v.1.2.1,v.1.2.2.1,v.1.2.2.2.1,v.1.2.2.2.2.1,v.1.2.2.2.2.2.1,v.1.2.2.2.2.2.2.1,v.2.2.2.1.1,v.2.2.2.1.2.1⟩
 fr:=fun x=>(((),(x.n,(x.a,(x.b,(x.sum,(x.oth,(x.state,()))))))),(((),((),())),(((),((),())),((x.N,(x.taps,())),()))))
structure z0X where
 r:Bool
def z0:Pt z0X where
 own:=[]
 t:=⟨[(6,.c (.bo))],[]⟩
 to:=fun v=>⟨v.1.1⟩
 fr:=fun x=>((x.r,()),())
def s0(x:p0X):Option (p0X⊕(q0X⊕z0X)):=bif decide (x.i<x.n) then bif inR x.i x.l0.length then bif decide (0≤x.N) then bif nz (IntKind.u64.wrap (1*2^min x.N.toNat 64)) then bif inR x.i x.l1.length then bif decide (0≤x.N) then bif nz (IntKind.u64.wrap (1*2^min x.N.toNat 64)) then bif eqN x.a_lo 0&&eqN x.aa.length x.a_len&&QP (x.a_len+1) 8 then bif eqN x.b_lo 0&&eqN x.bb.length x.b_len&&QP (x.b_len+1) 8 then bif eqN x.sum_lo 0&&eqN x.sq.length x.sum_len&&QP (x.sum_len+1) 8 then Q2 (F20.m ⟨x.N,x.taps,x.state⟩) fun y=>bif y.2 !=0 then some (Sum.inr (Sum.inr ⟨false⟩)) else bif nz x.n then bif bif decide (0≤x.N)&&(nz (IntKind.u64.wrap (IntKind.u64.wrap (1*2^min x.N.toNat 64) - 1))&&true) then true else bif x.i==(IntKind.i64.wrap x.pos).tmod x.n then false else true then bif eqN x.oth_lo 0&&eqN x.ot.length x.oth_len&&QP (x.oth_len+1) 8 then some (Sum.inl ⟨x.pos,x.n,0,x.a_len+1,0,x.b_len+1,0,x.sum_len+1,0,x.oth_len+1,IntKind.u64.wrap (↑(BitVec.ofInt 64 y.1^^^BitVec.ofInt 64 (Int.tmod (x.l0[x.i.toNat]?.getD 0) (IntKind.u64.wrap (1*2^min x.N.toNat 64)))).toNat:Int),IntKind.i64.wrap (x.i+1),x.l0,x.l1,x.N,x.taps,x.aa++[Int.tmod (x.l0[x.i.toNat]?.getD 0) (IntKind.u64.wrap (1*2^min x.N.toNat 64))],x.bb++[Int.tmod (x.l1[x.i.toNat]?.getD 0) (IntKind.u64.wrap (1*2^min x.N.toNat 64))],x.sq++[IntKind.u64.wrap (↑(BitVec.ofInt 64 (Int.tmod (x.l0[x.i.toNat]?.getD 0) (IntKind.u64.wrap (1*2^min x.N.toNat 64)))^^^BitVec.ofInt 64 (Int.tmod (x.l1[x.i.toNat]?.getD 0) (IntKind.u64.wrap (1*2^min x.N.toNat 64)))).toNat:Int)],x.ot++[bif x.i==(IntKind.i64.wrap x.pos).tmod x.n then IntKind.u64.wrap (↑(BitVec.ofInt 64 (Int.tmod (x.l0[x.i.toNat]?.getD 0) (IntKind.u64.wrap (1*2^min x.N.toNat 64)))^^^BitVec.ofInt 64 (IntKind.u64.wrap (1+(Int.tmod (x.l1[x.i.toNat]?.getD 0) (IntKind.u64.wrap (1*2^min x.N.toNat 64))).tmod (IntKind.u64.wrap (IntKind.u64.wrap (1*2^min x.N.toNat 64) - 1))))).toNat:Int) else Int.tmod (x.l0[x.i.toNat]?.getD 0) (IntKind.u64.wrap (1*2^min x.N.toNat 64))]⟩) else none else none else none else none else none else none else none else none else none else none else none else none else bif leB (x.a_lo+x.a_len) x.aa.length&&(leB (x.b_lo+x.b_len) x.bb.length&&(leB (x.sum_lo+x.sum_len) x.sq.length&&(leB (x.oth_lo+x.oth_len) x.ot.length&&true)))&&true then some (Sum.inr (Sum.inl ⟨x.n,List.take x.a_len (List.drop x.a_lo x.aa),List.take x.b_len (List.drop x.b_lo x.bb),List.take x.sum_len (List.drop x.sum_lo x.sq),List.take x.oth_len (List.drop x.oth_lo x.ot),x.state,x.N,x.taps⟩)) else none
theorem Qe(x:p0X):exec E1 176 (C7.Q3 0) 1 (p0.R x) (p0.H x) (JH 0 p0 (.exit 0) q0 .ret z0)=s0 x:=by kernel_rfl
def l0:QN:=JE 0 p0 (.exit 0) q0 .ret z0 s0
theorem tl0:QI (C7.Q3 0) 1=[]:=by kernel_rfl
theorem Qf  :QG Try.prog 176 none 0 (C7.Q3 0) l0:=Qg mixed (Q6 QD Q5 _) (by trivial) (by trivial) (fun _=>rfl) (fun _=>rfl) (fun _=>rfl) (tl0▸QB.nil) Qe
def E0:Env:=⟨ty,QQ cl,JL [(0,l0)],none⟩
def m(x:gX):Option fY:=bif bif decide ((↑x.l0.length:Int)>30) then true else decide ((↑x.l1.length:Int)>30) then Q2 (some PUnit.unit) fun y=>some true else Q2 (F19.m ⟨x.n0,x.taps0⟩) fun y=>Q2 (iter s0 ⟨x.pos,if (↑x.l1.length:Int)<(↑x.l0.length:Int) then (↑x.l1.length:Int) else (↑x.l0.length:Int),0,0,0,0,0,0,0,0,0,0,x.l0,x.l1,y.1,y.2,[],[],[],[]⟩) fun s=>JK s (fun y=>Q2 (F21.m ⟨y.N,y.taps,0,y.a⟩) fun y_1=>Q2 (F21.m ⟨y.N,y.taps,0,y.b⟩) fun y_2=>Q2 (F21.m ⟨y.N,y.taps,0,y.sum⟩) fun y_3=>Q2 (F21.m ⟨y.N,y.taps,0,y.oth⟩) fun y_4=>Q2 (bif bif bif bif bif bif bif y_1.2==0 then y_2.2==0 else false then y_3.2==0 else false then y_4.2==0 else false then y_1.1==y.state else false then y_3.1==IntKind.u64.wrap (↑(BitVec.ofInt 64 y_1.1^^^BitVec.ofInt 64 y_2.1).toNat:Int) else false then bif y.n==0 then true else y_4.1 !=y_1.1 else false then some PUnit.unit else some PUnit.unit) fun y_5=>some (bif bif bif bif bif bif bif y_1.2==0 then y_2.2==0 else false then y_3.2==0 else false then y_4.2==0 else false then y_1.1==y.state else false then y_3.1==IntKind.u64.wrap (↑(BitVec.ofInt 64 y_1.1^^^BitVec.ofInt 64 y_2.1).toNat:Int) else false then bif y.n==0 then true else y_4.1 !=y_1.1 else false then true else false)) fun z=>some z.r
theorem QT(x:gX):exec E0 176 C7 0 (QX 0 (g.A x)) (g.H x) (finish 0 ty [.tmp 6] f)=m x:=by kernel_rfl
theorem tl:QI C7 0=[(0,C7.Q3 0)]:=by kernel_rfl
theorem known:QS Try.prog 7 g f m:=
 QC mixed (Q6 QD Q5 _) s7 rfl rfl tl (QB.cons rfl Qf QB.nil) (fun _ _=>⟨rfl,rfl⟩) (fun _ _=>⟨rfl,rfl⟩) QT
end F7
end Go.Proofs.Ytfcbahfdgopgfaa
namespace Go.Proofs.Ytfcbahfdgopgfaa
open Go.Abs
set_option maxRecDepth 100000
namespace F7z
structure gX where
 n0:Int
 taps0:Int
 l0:List (Int)
 l1:List (Int)
 pos:Int
def g:Sg gX where
 vs:=[.agg [.it .u8,.it .u64],.agg [.arr (.int .u64),.arr (.int .u64)],.c (.it .u8)]
 h:=[]
 to:=fun a b=>⟨a.1.1,a.1.2.1,a.2.1.1,a.2.1.2.1,a.2.2.1⟩
 fa:=fun x=>((x.n0,(x.taps0,())),((x.l0,(x.l1,())),(x.pos,())))
 fh:=fun x=>()
abbrev fY:=Bool
def f:Ft fY where
 ord:=none
 sh:=.c (.bo)
 h:=[]
 to:=fun a b=>(a)
 fv:=fun y=>y
 fh:=fun y=>()
def cl:List (FuncId×Con):=[(9,F9.con),(19,F19.con),(20,F20.con),(21,F21z.con)]
theorem Q5:QM Try.prog cl:=⟨F9.Q4,F19.Q4,F20.Q4,F21z.Q4,trivial⟩
structure p0X where
 pos:Int
 n:Int
 state:Int
 i:Int
 l0:List (Int)
 l1:List (Int)
 N:Int
 taps:Int
def p0:Pt p0X where
 own:=[]
 t:=⟨[(2,.c (.it .u8)),(4,.c (.ptr 1 0)),(7,.c (.ptr 2 0)),(8,.c (.it .i64)),(9,.c (.nils)),(10,.c (.nils)),(11,.c (.nils)),(12,.c (.nils)),(13,.c (.it .u64)),(14,.c (.it .i64))],[.st [.junk,.junk] 1 0,.st [.arr (.int .u64),.arr (.int .u64)] 1 0,.st [.it .i64,.it .u64] 1 0]⟩
 to:=fun v=>⟨v.1.1,v.1.2.2.2.1,v.1.2.2.2.2.2.2.2.2.1,v.1.2.2.2.2.2.2.2.2.2.1,v.2.2.1.1,v.2.2.1.2.1,v.2.2.2.1.1,v.2.2.2.1.2.1⟩
 fr:=fun x=>((x.pos,((),((),(x.n,((),((),((),((),(x.state,(x.i,())))))))))),(((),((),())),((x.l0,(x.l1,())),((x.N,(x.taps,())),()))))
structure q0X where
 n:Int
 state:Int
 N:Int
 taps:Int
def q0:Pt q0X where
 own:=[]
 t:=⟨[(7,.c (.ptr 2 0)),(8,.c (.it .i64)),(9,.c (.nils)),(10,.c (.nils)),(11,.c (.nils)),(12,.c (.nils)),(13,.c (.it .u64))],[.st [.junk,.junk] 1 0,.st [.junk,.junk] 1 0,.st [.it .i64,.it .u64] 1 0]⟩
 to:=fun v=>⟨v.1.2.1,v.1.2.2.2.2.2.2.1,v.2.2.2.1.1,v.2.2.2.1.2.1⟩
 fr:=fun x=>(((),(x.n,((),((),((),((),(x.state,()))))))),(((),((),())),(((),((),())),((x.N,(x.taps,())),()))))
structure z0X where
 r:Bool
def z0:Pt z0X where
 own:=[]
 t:=⟨[(6,.c (.bo))],[]⟩
 to:=fun v=>⟨v.1.1⟩
 fr:=fun x=>((x.r,()),())
def s0(x:p0X):Option (p0X⊕(q0X⊕z0X)):=bif decide (x.i<x.n) then bif inR x.i x.l0.length then bif decide (0≤x.N) then bif nz (IntKind.u64.wrap (1*2^min x.N.toNat 64)) then bif inR x.i x.l1.length then bif decide (0≤x.N) then bif nz (IntKind.u64.wrap (1*2^min x.N.toNat 64)) then Q2 (F20.m ⟨x.N,x.taps,x.state⟩) fun y=>bif y.2 !=0 then some (Sum.inr (Sum.inr ⟨false⟩)) else bif nz x.n then bif bif decide (0≤x.N)&&(nz (IntKind.u64.wrap (IntKind.u64.wrap (1*2^min x.N.toNat 64) - 1))&&true) then true else bif x.i==(IntKind.i64.wrap x.pos).tmod x.n then false else true then none else none else none else none else none else none else none else none else none else some (Sum.inr (Sum.inl ⟨x.n,x.state,x.N,x.taps⟩))
def l0:QN:=JE 0 p0 (.exit 0) q0 .ret z0 s0
theorem tl0:QI (C7.Q3 0) 1=[]:=by kernel_rfl
def m(x:gX):Option fY:=bif bif decide ((↑x.l0.length:Int)>30) then true else decide ((↑x.l1.length:Int)>30) then Q2 (some PUnit.unit) fun y=>some true else Q2 (F19.m ⟨x.n0,x.taps0⟩) fun y=>Q2 (iter s0 ⟨x.pos,if (↑x.l1.length:Int)<(↑x.l0.length:Int) then (↑x.l1.length:Int) else (↑x.l0.length:Int),0,0,x.l0,x.l1,y.1,y.2⟩) fun s=>JK s (fun y=>Q2 (F21z.m ⟨y.N,y.taps,0⟩) fun y_1=>Q2 (F21z.m ⟨y.N,y.taps,0⟩) fun y_2=>Q2 (F21z.m ⟨y.N,y.taps,0⟩) fun y_3=>Q2 (F21z.m ⟨y.N,y.taps,0⟩) fun y_4=>Q2 (bif bif bif bif bif bif bif y_1.2==0 then y_2.2==0 else false then y_3.2==0 else false then y_4.2==0 else false then y_1.1==y.state else false then y_3.1==IntKind.u64.wrap (↑(BitVec.ofInt 64 y_1.1^^^BitVec.ofInt 64 y_2.1).toNat:Int) else false then bif y.n==0 then true else y_4.1 !=y_1.1 else false then some PUnit.unit else some PUnit.unit) fun y_5=>some (bif bif bif bif bif bif bif y_1.2==0 then y_2.2==0 else false then y_3.2==0 else false then y_4.2==0 else false then y_1.1==y.state else false then y_3.1==IntKind.u64.wrap (↑(BitVec.ofInt 64 y_1.1^^^BitVec.ofInt 64 y_2.1).toNat:Int) else false then bif y.n==0 then true else y_4.1 !=y_1.1 else false then true else false)) fun z=>some z.r
theorem tl:QI C7 0=[(0,C7.Q3 0)]:=by kernel_rfl
end F7z
end Go.Proofs.Ytfcbahfdgopgfaa
