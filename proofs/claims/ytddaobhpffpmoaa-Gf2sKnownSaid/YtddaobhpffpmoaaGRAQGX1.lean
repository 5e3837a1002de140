/-
  The functions of gf2s and shifters, run on symbolic values.
-/
import Derived.Test.YtddaobhpffpmoaaGRAQGb
import Derived.Test.YtddaobhpffpmoaaGRAQGa
set_option linter.all false
noncomputable section
namespace Go.Proofs.Ytddaobhpffpmoaa
open Go.Abs
set_option maxRecDepth 100000
namespace M52e
structure gX where
 l:List (Int)
def g:Sg gX where
 vs:=[.c (.arr (.int .u8))]
 h:=[]
 to:=fun a b=>⟨a.1⟩
 fa:=fun x=>(x.l,())
 fh:=fun x=>()
abbrev fY:=Int
def f:Ft fY where
 ord:=none
 sh:=.tup [.inr [.junk,.junk],.inl (.it .i64)]
 h:=[]
 to:=fun a b=>(a.2.1)
 fv:=fun y=>(((),((),())),(y,()))
 fh:=fun y=>()
def cl:List (FuncId×Con):=[(51,M51t.con),(75,M75.con)]
theorem Q5:QG Try.prog cl:=⟨M51t.Q1,M75.Q1,trivial⟩
def E1:Env:=⟨ty,QL cl,fun _=>none,none⟩
structure p0X where
 l:List (Int)
 n:Int
 i:Int
 ws:List (Int)
 vn:Int
 vw_lo:Nat
 vw_len:Nat
 vw_cap:Nat
def p0:Pt p0X where
 own:=[]
 t:=⟨[(2,.c (.ptr 0 0)),(4,.c (.ptr 2 0)),(18,.c (.arr (.int .u8))),(19,.c (.it .i64)),(20,.c (.it .i64))],[.st [.junk,.junk] 1 0,.arr (.int .u64) 0,.st [.it .i64,.slc 1 0 1] 1 0]⟩
 to:=fun v=>⟨v.1.2.2.1,v.1.2.2.2.1,v.1.2.2.2.2.1,v.2.2.1,v.2.2.2.1.1,v.2.2.2.1.2.1.1,v.2.2.2.1.2.1.2.1,v.2.2.2.1.2.1.2.2⟩
 fr:=fun x=>(((),((),(x.l,(x.n,(x.i,()))))),(((),((),())),(x.ws,((x.vn,((x.vw_lo,x.vw_len,x.vw_cap),())),()))))
structure q0X where
 ws:List (Int)
 vn:Int
 vw_lo:Nat
 vw_len:Nat
 vw_cap:Nat
def q0:Pt q0X where
 own:=[]
 t:=⟨[(2,.c (.ptr 0 0)),(4,.c (.ptr 2 0))],[.st [.junk,.junk] 1 0,.arr (.int .u64) 0,.st [.it .i64,.slc 1 0 1] 1 0]⟩
 to:=fun v=>⟨v.2.2.1,v.2.2.2.1.1,v.2.2.2.1.2.1.1,v.2.2.2.1.2.1.2.1,v.2.2.2.1.2.1.2.2⟩
 fr:=fun x=>(((),((),())),(((),((),())),(x.ws,((x.vn,((x.vw_lo,x.vw_len,x.vw_cap),())),()))))
structure z0X where
 e:Int
 rn:Int
def z0:Pt z0X where
 own:=[]
 t:=⟨[(2,.c (.ptr 0 0)),(3,.c (.it .i64))],[.st [.it .i64,.nils] 1 0]⟩
 to:=fun v=>⟨v.1.2.1,v.2.1.1⟩
 fr:=fun x=>(((),(x.e,())),((x.rn,((),())),()))
def s0(x:p0X):Option (p0X⊕(q0X⊕z0X)):=bif decide (x.i<x.n) then bif inR x.i x.l.length then bif decide (x.l[x.i.toNat]?.getD 0>1) then some (Sum.inr (Sum.inr ⟨1,0⟩)) else bif x.l[x.i.toNat]?.getD 0==1 then Q0 (M75.m ⟨x.vn,x.vw_lo,x.vw_len,x.vw_cap,x.i,x.ws⟩) fun y=>some (Sum.inl ⟨x.l,x.n,IntKind.i64.wrap (x.i+1),y,x.vn,x.vw_lo,x.vw_len,x.vw_cap⟩) else some (Sum.inl ⟨x.l,x.n,IntKind.i64.wrap (x.i+1),x.ws,x.vn,x.vw_lo,x.vw_len,x.vw_cap⟩) else none else some (Sum.inr (Sum.inl ⟨x.ws,x.vn,x.vw_lo,x.vw_len,x.vw_cap⟩))
theorem QV(x:p0X):exec E1 35 (C52.Q2 0) 1 (p0.R x) (p0.H x) (J3 0 p0 (.exit 0) q0 .ret z0)=s0 x:=by kernel_rfl
def l0:QS:=J4 0 p0 (.exit 0) q0 .ret z0 s0
theorem tl0:QI (C52.Q2 0) 1=[]:=by kernel_rfl
theorem QW  :QF Try.prog 35 none 0 (C52.Q2 0) l0:=Qc mixed (Q8 QC Q5 _) (by trivial) (by trivial) (fun _=>rfl) (fun _=>rfl) (fun _=>rfl) (tl0▸QB.nil) QV
def E0:Env:=⟨ty,QL cl,JA [(0,l0)],none⟩
def m(x:gX):Option fY:=Q0 (M51t.m ⟨(↑x.l.length:Int)⟩) fun y=>bif y.2.2 !=0 then some y.2.2 else none
theorem QJ(x:gX):exec E0 35 C52 0 (QN 0 (g.A x)) (g.H x) (finish 0 ty [.cell 2 34,.tmp 3] f)=m x:=by kernel_rfl
theorem tl:QI C52 0=[(0,C52.Q2 0)]:=by kernel_rfl
theorem known:QM Try.prog 52 g f m:=
 Q9 mixed (Q8 QC Q5 _) s52 rfl rfl tl (QB.cons rfl QW QB.nil) (fun _ _=>⟨rfl,rfl⟩) (fun _ _=>⟨rfl,rfl⟩) QJ
def con:Con:=Qx g f m default
theorem Q1:QO Try.prog 52 con:=QE known (fun _=>rfl) rfl
def Wj:Con:=US g f m default
theorem ZY:QO Try.prog 52 Wj:=UR known (fun _=>rfl) (fun _=>rfl)
end M52e
namespace M53
structure gX where
 n:Int
 i:Int
def g:Sg gX where
 vs:=[.c (.it .i64),.c (.it .i64)]
 h:=[]
 to:=fun a b=>⟨a.1,a.2.1⟩
 fa:=fun x=>(x.n,(x.i,()))
 fh:=fun x=>()
abbrev fY:=Int×List (Int)×Int
def f:Ft fY where
 ord:=none
 sh:=.tup [.inr [.it .i64,.arr (.int .u64)],.inl (.it .i64)]
 h:=[]
 to:=fun a b=>(a.1.1,a.1.2.1,a.2.1)
 fv:=fun y=>((y.1,(y.2.1,())),(y.2.2,()))
 fh:=fun y=>()
def cl:List (FuncId×Con):=[(51,M51t.con),(75,M75.con)]
theorem Q5:QG Try.prog cl:=⟨M51t.Q1,M75.Q1,trivial⟩
def E0:Env:=⟨ty,QL cl,fun _=>none,none⟩
def m(x:gX):Option fY:=Q0 (M51t.m ⟨x.n⟩) fun y=>bif y.2.2 !=0 then some (0,[],y.2.2) else bif bif decide (x.i<0) then true else decide (x.i≥x.n) then some (0,[],1) else none
theorem QJ(x:gX):exec E0 29 C53 0 (QN 0 (g.A x)) (g.H x) (finish 0 ty [.cell 4 34,.tmp 5] f)=m x:=by kernel_rfl
theorem tl:QI C53 0=[]:=by kernel_rfl
theorem known:QM Try.prog 53 g f m:=
 Q9 mixed (Q8 QC Q5 _) s53 rfl rfl tl QB.nil (fun _ _=>⟨rfl,rfl⟩) (fun _ _=>⟨rfl,rfl⟩) QJ
def con:Con:=Qx g f m default
theorem Q1:QO Try.prog 53 con:=QE known (fun _=>rfl) rfl
end M53
end Go.Proofs.Ytddaobhpffpmoaa
