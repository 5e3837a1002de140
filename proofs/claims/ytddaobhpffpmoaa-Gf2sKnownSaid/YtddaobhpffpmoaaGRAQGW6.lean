/-
  The functions of gf2s and shifters, run on symbolic values.
-/
import Derived.Test.YtddaobhpffpmoaaGRAQGc
set_option linter.all false
noncomputable section
namespace Go.Proofs.Ytddaobhpffpmoaa
open Go.Abs
set_option maxRecDepth 100000
namespace M3
structure gX where
 mr:Int
 mc:Int
 ma:List (Int)
 side:List (Int)
def g:Sg gX where
 vs:=[.agg [.it .u8,.it .u8,.arr (.int .u8)],.c (.arr (.int .u8))]
 h:=[]
 to:=fun a b=>⟨a.1.1,a.1.2.1,a.1.2.2.1,a.2.1⟩
 fa:=fun x=>((x.mr,(x.mc,(x.ma,()))),(x.side,()))
 fh:=fun x=>()
abbrev fY:=Bool
def f:Ft fY where
 ord:=none
 sh:=.c (.bo)
 h:=[]
 to:=fun a b=>(a)
 fv:=fun y=>y
 fh:=fun y=>()
def cl:List (FuncId×Con):=[(18,M18.con),(19,M19.con),(20,M20.con),(21,M21.con),(23,M23.con),(24,M24.con),(22,M22.con),(25,M25.con),(26,M26.con),(27,M27.con),(28,M28.con),(29,M29.con),(30,M30.con),(31,M31.con),(32,M32.con)]
theorem Q5:QG Try.prog cl:=⟨M18.Q1,M19.Q1,M20.Q1,M21.Q1,M23.Q1,M24.Q1,M22.Q1,M25.Q1,M26.Q1,M27.Q1,M28.Q1,M29.Q1,M30.Q1,M31.Q1,M32.Q1,trivial⟩
def E3:Env:=⟨ty,QL cl,fun _=>none,none⟩
structure p2X where
 c:Int
 l:List (List (Int))
 b:List (Int)
 ker:List ((Int)×List (Int))
 all:List (List (Int))
 n:Int
 o:Int
 mr:Int
 mc:Int
 ma:List (Int)
 xn:Int
 xw:List (Int)
 yn:Int
 yw:List (Int)
def p2:Pt p2X where
 own:=[]
 t:=⟨[(6,.c (.it .i64)),(7,.c (.arr (.sl (.int .u8)))),(8,.c (.arr (.int .u8))),(9,.c (.ptr 1 0)),(11,.c (.arr (.pair (.int .i64) (.sl (.int .u64))))),(15,.c (.arr (.sl (.int .u8)))),(16,.c (.it .i64)),(17,.c (.ptr 2 0)),(21,.c (.it .i64))],[.st [.it .u8,.it .u8,.arr (.int .u8)] 1 0,.st [.it .i64,.arr (.int .u64)] 1 0,.st [.it .i64,.arr (.int .u64)] 1 0,.st [.junk,.junk] 1 0]⟩
 to:=fun v=>⟨v.1.1,v.1.2.1,v.1.2.2.1,v.1.2.2.2.2.1,v.1.2.2.2.2.2.1,v.1.2.2.2.2.2.2.1,v.1.2.2.2.2.2.2.2.2.1,v.2.1.1,v.2.1.2.1,v.2.1.2.2.1,v.2.2.1.1,v.2.2.1.2.1,v.2.2.2.1.1,v.2.2.2.1.2.1⟩
 fr:=fun x=>((x.c,(x.l,(x.b,((),(x.ker,(x.all,(x.n,((),(x.o,()))))))))),((x.mr,(x.mc,(x.ma,()))),((x.xn,(x.xw,())),((x.yn,(x.yw,())),(((),((),())),())))))
structure q2X where
 c:Int
 l:List (List (Int))
 b:List (Int)
 ker:List ((Int)×List (Int))
 all:List (List (Int))
 n:Int
 mr:Int
 mc:Int
 ma:List (Int)
 xn:Int
 xw:List (Int)
def q2:Pt q2X where
 own:=[]
 t:=⟨[(6,.c (.it .i64)),(7,.c (.arr (.sl (.int .u8)))),(8,.c (.arr (.int .u8))),(9,.c (.ptr 1 0)),(11,.c (.arr (.pair (.int .i64) (.sl (.int .u64))))),(15,.c (.arr (.sl (.int .u8)))),(16,.c (.it .i64))],[.st [.it .u8,.it .u8,.arr (.int .u8)] 1 0,.st [.it .i64,.arr (.int .u64)] 1 0]⟩
 to:=fun v=>⟨v.1.1,v.1.2.1,v.1.2.2.1,v.1.2.2.2.2.1,v.1.2.2.2.2.2.1,v.1.2.2.2.2.2.2.1,v.2.1.1,v.2.1.2.1,v.2.1.2.2.1,v.2.2.1.1,v.2.2.1.2.1⟩
 fr:=fun x=>((x.c,(x.l,(x.b,((),(x.ker,(x.all,(x.n,()))))))),((x.mr,(x.mc,(x.ma,()))),((x.xn,(x.xw,())),())))
structure z2X where
 r:Bool
def z2:Pt z2X where
 own:=[]
 t:=⟨[(4,.c (.bo))],[]⟩
 to:=fun v=>⟨v.1.1⟩
 fr:=fun x=>((x.r,()),())
def s2(x:p2X):Option (p2X⊕(q2X⊕z2X)):=bif decide (x.o<(↑x.all.length:Int)) then Q0 (bif decide (x.o<x.n) then M31.m ⟨x.xn,x.xw,x.ker,x.o⟩ else some []) fun y=>Q0 (bif decide (x.o<x.n) then M32.m ⟨x.yn,x.yw⟩ else some []) fun y_1=>bif bif decide (x.o<x.n) then y==y_1 else false then some (Sum.inr (Sum.inr ⟨false⟩)) else some (Sum.inl ⟨x.c,x.l,x.b,x.ker,x.all,x.n,IntKind.i64.wrap (x.o+1),x.mr,x.mc,x.ma,x.xn,x.xw,x.yn,x.yw⟩) else some (Sum.inr (Sum.inl ⟨x.c,x.l,x.b,x.ker,x.all,x.n,x.mr,x.mc,x.ma,x.xn,x.xw⟩))
theorem s2_eq(x:p2X):exec E3 188 (C3.Q2 2) 3 (p2.R x) (p2.H x) (J3 0 p2 (.exit 4) q2 .ret z2)=s2 x:=by kernel_rfl
def l2:QS:=J4 0 p2 (.exit 4) q2 .ret z2 s2
theorem tl2:QI (C3.Q2 2) 3=[]:=by kernel_rfl
theorem l2_ok  :QF Try.prog 188 none 0 (C3.Q2 2) l2:=Qc mixed (Q8 QC Q5 _) (by trivial) (by trivial) (fun _=>rfl) (fun _=>rfl) (fun _=>rfl) (tl2▸QB.nil) s2_eq
def E2:Env:=⟨ty,QL cl,JA [(2,l2)],none⟩
structure p1X where
 c:Int
 l:List (List (Int))
 b:List (Int)
 ker:List ((Int)×List (Int))
 all:List (List (Int))
 n:Int
 k:Int
 mr:Int
 mc:Int
 ma:List (Int)
 xn:Int
 xw:List (Int)
 yn:Int
 yw:List (Int)
def p1:Pt p1X where
 own:=[]
 t:=⟨[(6,.c (.it .i64)),(7,.c (.arr (.sl (.int .u8)))),(8,.c (.arr (.int .u8))),(9,.c (.ptr 1 0)),(11,.c (.arr (.pair (.int .i64) (.sl (.int .u64))))),(15,.c (.arr (.sl (.int .u8)))),(16,.c (.it .i64)),(17,.c (.ptr 2 0)),(18,.c (.it .i64))],[.st [.it .u8,.it .u8,.arr (.int .u8)] 1 0,.st [.it .i64,.arr (.int .u64)] 1 0,.st [.it .i64,.arr (.int .u64)] 1 0]⟩
 to:=fun v=>⟨v.1.1,v.1.2.1,v.1.2.2.1,v.1.2.2.2.2.1,v.1.2.2.2.2.2.1,v.1.2.2.2.2.2.2.1,v.1.2.2.2.2.2.2.2.2.1,v.2.1.1,v.2.1.2.1,v.2.1.2.2.1,v.2.2.1.1,v.2.2.1.2.1,v.2.2.2.1.1,v.2.2.2.1.2.1⟩
 fr:=fun x=>((x.c,(x.l,(x.b,((),(x.ker,(x.all,(x.n,((),(x.k,()))))))))),((x.mr,(x.mc,(x.ma,()))),((x.xn,(x.xw,())),((x.yn,(x.yw,())),()))))
structure q1X where
 c:Int
 l:List (List (Int))
 b:List (Int)
 ker:List ((Int)×List (Int))
 all:List (List (Int))
 n:Int
 mr:Int
 mc:Int
 ma:List (Int)
 xn:Int
 xw:List (Int)
 yn:Int
 yw:List (Int)
def q1:Pt q1X where
 own:=[]
 t:=⟨[(6,.c (.it .i64)),(7,.c (.arr (.sl (.int .u8)))),(8,.c (.arr (.int .u8))),(9,.c (.ptr 1 0)),(11,.c (.arr (.pair (.int .i64) (.sl (.int .u64))))),(15,.c (.arr (.sl (.int .u8)))),(16,.c (.it .i64)),(17,.c (.ptr 2 0))],[.st [.it .u8,.it .u8,.arr (.int .u8)] 1 0,.st [.it .i64,.arr (.int .u64)] 1 0,.st [.it .i64,.arr (.int .u64)] 1 0]⟩
 to:=fun v=>⟨v.1.1,v.1.2.1,v.1.2.2.1,v.1.2.2.2.2.1,v.1.2.2.2.2.2.1,v.1.2.2.2.2.2.2.1,v.2.1.1,v.2.1.2.1,v.2.1.2.2.1,v.2.2.1.1,v.2.2.1.2.1,v.2.2.2.1.1,v.2.2.2.1.2.1⟩
 fr:=fun x=>((x.c,(x.l,(x.b,((),(x.ker,(x.all,(x.n,((),())))))))),((x.mr,(x.mc,(x.ma,()))),((x.xn,(x.xw,())),((x.yn,(x.yw,())),()))))
def s1(x:p1X):Option (p1X⊕q1X):=bif decide (x.k<(↑x.ker.length:Int)) then bif decide (0≤x.k) then bif IntKind.i64.wrap (↑(BitVec.ofInt 64 (x.n.fdiv (2^min x.k.toNat 64))&&&BitVec.ofInt 64 1).toNat:Int)==1 then bif inR x.k x.ker.length then Q0 (M28.m ⟨x.yn,x.yw,(x.ker[x.k.toNat]?.getD (0,[])).1,(x.ker[x.k.toNat]?.getD (0,[])).2⟩) fun y=>some (Sum.inl ⟨x.c,x.l,x.b,x.ker,x.all,x.n,IntKind.i64.wrap (x.k+1),x.mr,x.mc,x.ma,x.xn,x.xw,y.1,y.2.1⟩) else none else some (Sum.inl ⟨x.c,x.l,x.b,x.ker,x.all,x.n,IntKind.i64.wrap (x.k+1),x.mr,x.mc,x.ma,x.xn,x.xw,x.yn,x.yw⟩) else none else some (Sum.inr ⟨x.c,x.l,x.b,x.ker,x.all,x.n,x.mr,x.mc,x.ma,x.xn,x.xw,x.yn,x.yw⟩)
theorem JZ(x:p1X):exec E2 188 (C3.Q2 1) 2 (p1.R x) (p1.H x) (Qq 0 p1 (.exit 2) q1)=s1 x:=by kernel_rfl
def l1:QS:=Qr 0 p1 (.exit 2) q1 s1
theorem tl1:QI (C3.Q2 1) 2=[]:=by kernel_rfl
theorem Jb  :QF Try.prog 188 none 0 (C3.Q2 1) l1:=QQ mixed (Q8 QC Q5 _) (by trivial) (fun _=>rfl) (fun _=>rfl) (tl1▸QB.nil) JZ
def E1:Env:=⟨ty,QL cl,JA [(1,l1),(2,l2)],none⟩
structure p0X where
 c:Int
 l:List (List (Int))
 b:List (Int)
 ker:List ((Int)×List (Int))
 all:List (List (Int))
 n:Int
 mr:Int
 mc:Int
 ma:List (Int)
 xn:Int
 xw:List (Int)
def p0:Pt p0X where
 own:=[]
 t:=⟨[(6,.c (.it .i64)),(7,.c (.arr (.sl (.int .u8)))),(8,.c (.arr (.int .u8))),(9,.c (.ptr 1 0)),(11,.c (.arr (.pair (.int .i64) (.sl (.int .u64))))),(15,.c (.arr (.sl (.int .u8)))),(16,.c (.it .i64))],[.st [.it .u8,.it .u8,.arr (.int .u8)] 1 0,.st [.it .i64,.arr (.int .u64)] 1 0]⟩
 to:=fun v=>⟨v.1.1,v.1.2.1,v.1.2.2.1,v.1.2.2.2.2.1,v.1.2.2.2.2.2.1,v.1.2.2.2.2.2.2.1,v.2.1.1,v.2.1.2.1,v.2.1.2.2.1,v.2.2.1.1,v.2.2.1.2.1⟩
 fr:=fun x=>((x.c,(x.l,(x.b,((),(x.ker,(x.all,(x.n,()))))))),((x.mr,(x.mc,(x.ma,()))),((x.xn,(x.xw,())),())))
abbrev q0X:=Unit
def q0:Pt q0X where
 own:=[]
 t:=⟨[],[]⟩
 to:=fun v=>()
 fr:=fun x=>((),())
structure z0X where
 r:Bool
def z0:Pt z0X where
 own:=[]
 t:=⟨[(4,.c (.bo))],[]⟩
 to:=fun v=>⟨v.1.1⟩
 fr:=fun x=>((x.r,()),())
def s0(x:p0X):Option (p0X⊕(q0X⊕z0X)):=bif decide (x.n<(↑x.all.length:Int)) then Q0 (iter s1 ⟨x.c,x.l,x.b,x.ker,x.all,x.n,0,x.mr,x.mc,x.ma,x.xn,x.xw,x.xn,x.xw⟩) fun y=>Q0 (M23.m ⟨y.l,y.c⟩) fun y_1=>Q0 (M29.m ⟨y_1.1,y_1.2,y.yn,y.yw⟩) fun y_2=>Q0 (bif !y_2.2.2 !=0 then M30.m ⟨y_2.1,y_2.2.1,y.b⟩ else some false) fun y_3=>bif bif y_2.2.2 !=0 then true else !y_3 then some (Sum.inr (Sum.inr ⟨false⟩)) else Q0 (iter s2 ⟨y.c,y.l,y.b,y.ker,y.all,y.n,0,y.mr,y.mc,y.ma,y.xn,y.xw,y.yn,y.yw⟩) fun s=>J6 s (fun y=>some (Sum.inl ⟨y.c,y.l,y.b,y.ker,y.all,IntKind.i64.wrap (y.n+1),y.mr,y.mc,y.ma,y.xn,y.xw⟩)) fun z=>some (Sum.inr (Sum.inr ⟨z.r⟩)) else some (Sum.inr (Sum.inl PUnit.unit))
theorem QV(x:p0X):exec E1 188 (C3.Q2 0) 1 (p0.R x) (p0.H x) (J3 0 p0 (.exit 0) q0 .ret z0)=s0 x:=by kernel_rfl
def l0:QS:=J4 0 p0 (.exit 0) q0 .ret z0 s0
theorem tl0:QI (C3.Q2 0) 1=[(1,C3.Q2 1),(2,C3.Q2 2)]:=by kernel_rfl
theorem QW  :QF Try.prog 188 none 0 (C3.Q2 0) l0:=Qc mixed (Q8 QC Q5 _) (by trivial) (by trivial) (fun _=>rfl) (fun _=>rfl) (fun _=>rfl) (tl0▸(QB.cons rfl Jb (QB.cons rfl l2_ok QB.nil))) QV
def E0:Env:=⟨ty,QL cl,JA [(0,l0),(1,l1),(2,l2)],none⟩
def m(x:gX):Option fY:=Q0 (M18.m ⟨[(x.mr,x.mc,x.ma)]⟩) fun y=>bif bif !y then true else decide ((↑x.side.length:Int)>40) then Q0 (M19.m PUnit.unit) fun y=>some y else Q0 (M20.m ⟨x.mr,x.mc,x.ma⟩) fun y=>Q0 (M21.m ⟨x.mr,x.mc,x.ma,y.1,y.2.tmod 9⟩) fun y_1=>Q0 (M21.m ⟨0,0,x.side,1,y.1⟩) fun y_2=>bif inR 0 (List.length y_2) then Q0 (M23.m ⟨y_1,y.2.tmod 9⟩) fun y_3=>Q0 (M24.m ⟨y_2[0]?.getD []⟩) fun y_4=>Q0 (M22.m ⟨y_3.1,y_3.2,y_4.1,y_4.2⟩) fun y_5=>Q0 (M23.m ⟨y_1,y.2.tmod 9⟩) fun y_6=>Q0 (M25.m ⟨y_6.1,y_6.2⟩) fun y_7=>Q0 (M23.m ⟨y_1,y.2.tmod 9⟩) fun y_8=>Q0 (M26.m ⟨y_8.1,y_8.2⟩) fun y_9=>Q0 (M27.m ⟨y_1,y.2.tmod 9,y_2[0]?.getD []⟩) fun y_10=>bif bif bif bif bif y_7.2 !=0 then true else y_9.2 !=0 then true else IntKind.i64.wrap ((↑y_7.1.length:Int)+y_9.1) !=y.2.tmod 9 then true else !(y_5.2.2==0)==decide ((↑(List.length y_10):Int)>0) then true else bif y_5.2.2 !=0 then bif bif y_5.2.2 !=9 then true else y_5.1 !=0 then true else decide ((↑y_5.2.1.length:Int)>0) else false then some false else bif y_5.2.2 !=0 then Q0 (M19.m PUnit.unit) fun y=>some y else bif decide (0≤(↑y_7.1.length:Int)) then bif (↑(List.length y_10):Int) !=IntKind.i64.wrap (1*2^min (↑y_7.1.length:Int).toNat 64) then some false else Q0 (iter s0 ⟨y.2.tmod 9,y_1,y_2[0]?.getD [],y_7.1,y_10,0,x.mr,x.mc,x.ma,y_5.1,y_5.2.1⟩) fun s=>J6 s (fun y=>Q0 (M19.m PUnit.unit) fun y=>some y) fun z=>some z.r else none else none
theorem QJ(x:gX):exec E0 188 C3 0 (QN 0 (g.A x)) (g.H x) (finish 0 ty [.tmp 4] f)=m x:=by kernel_rfl
theorem tl:QI C3 0=[(0,C3.Q2 0)]:=by kernel_rfl
theorem known:QM Try.prog 3 g f m:=
 Q9 mixed (Q8 QC Q5 _) s3 rfl rfl tl (QB.cons rfl QW QB.nil) (fun _ _=>⟨rfl,rfl⟩) (fun _ _=>⟨rfl,rfl⟩) QJ
def con:Con:=Qx g f m default
theorem Q1:QO Try.prog 3 con:=QE known (fun _=>rfl) rfl
end M3
end Go.Proofs.Ytddaobhpffpmoaa
