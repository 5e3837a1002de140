/-
  The functions of gf2s and shifters, run on symbolic values.
-/
import Derived.Test.YtddaobhpffpmoaaGRAQGX1
import Derived.Test.YtddaobhpffpmoaaGRAQGW2
import Derived.Test.YtddaobhpffpmoaaGRAQGW3
import Derived.Test.YtddaobhpffpmoaaGRAQGW4
import Derived.Test.YtddaobhpffpmoaaGRAQGW5
import Derived.Test.YtddaobhpffpmoaaGRAQGW6
import Derived.Test.YtddaobhpffpmoaaGRAQGW7
import Derived.Test.YtddaobhpffpmoaaGRAQGW8
set_option linter.all false
noncomputable section
namespace Go.Proofs.Ytddaobhpffpmoaa
open Go.Abs
set_option maxRecDepth 100000
namespace M10
abbrev gX:=Unit
def g:Sg gX where
 vs:=[]
 h:=[]
 to:=fun a b=>()
 fa:=fun x=>()
 fh:=fun x=>()
abbrev fY:=Bool
def f:Ft fY where
 ord:=none
 sh:=.c (.bo)
 h:=[]
 to:=fun a b=>(a)
 fv:=fun y=>y
 fh:=fun y=>()
def cl:List (FuncId×Con):=[(3,M3.con),(4,M4.con),(5,M5.con),(6,M6.con),(7,M7.con),(8,M8.con),(9,M9.con),(19,M19.con),(51,M51t.con),(52,M52e.Wj),(45,M45.con),(53,M53.con),(50,M50.Wj)]
theorem Q5:QG Try.prog cl:=⟨M3.Q1,M4.Q1,M5.Q1,M6.Q1,M7.Q1,M8.Q1,M9.Q1,M19.Q1,M51t.Q1,M52e.ZY,M45.Q1,M53.Q1,M50.ZY,trivial⟩
def E2:Env:=⟨ty,QL cl,fun _=>none,none⟩
structure p1X where
 k:Int
 n:Int
 a_lo:Nat
 a_len:Nat
 b_lo:Nat
 b_len:Nat
 i:Int
 a:List (Int)
 b:List (Int)
def p1:Pt p1X where
 own:=[.reg 3 (.int .u8),.reg 4 (.int .u8)]
 t:=⟨[(1,.c (.it .i64)),(2,.c (.it .i64)),(3,.c (.sl 0 0 1)),(4,.c (.sl 1 0 1)),(5,.c (.it .i64))],[.arr (.int .u8) 0,.arr (.int .u8) 0]⟩
 to:=fun v=>⟨v.1.1,v.1.2.1,v.1.2.2.1.1,v.1.2.2.1.2,v.1.2.2.2.1.1,v.1.2.2.2.1.2,v.1.2.2.2.2.1,v.2.1,v.2.2.1⟩
 fr:=fun x=>((x.k,(x.n,((x.a_lo,x.a_len),((x.b_lo,x.b_len),(x.i,()))))),(x.a,(x.b,())))
structure q1X where
 k:Int
 n:Int
 a:List (Int)
 b:List (Int)
def q1:Pt q1X where
 own:=[]
 t:=⟨[(1,.c (.it .i64)),(2,.c (.it .i64)),(3,.c (.arr (.int .u8))),(4,.c (.arr (.int .u8)))],[]⟩
 to:=fun v=>⟨v.1.1,v.1.2.1,v.1.2.2.1,v.1.2.2.2.1⟩
 fr:=fun x=>((x.k,(x.n,(x.a,(x.b,())))),())
def s1(x:p1X):Option (p1X⊕q1X):=bif decide (x.i<60) then bif eqN x.a_lo 0&&eqN x.a.length x.a_len&&QP (x.a_len+1) 1 then bif eqN x.b_lo 0&&eqN x.b.length x.b_len&&QP (x.b_len+1) 1 then some (Sum.inl ⟨(IntKind.i64.wrap (IntKind.i64.wrap (IntKind.i64.wrap (x.k*31)+IntKind.i64.wrap (7*x.i))+11)).tmod 100003,x.n,0,x.a_len+1,0,x.b_len+1,IntKind.i64.wrap (x.i+1),x.a++[IntKind.u8.wrap x.k],x.b++[IntKind.u8.wrap (IntKind.i64.wrap (x.k.tdiv 256))]⟩) else none else none else bif leB (x.a_lo+x.a_len) x.a.length&&(leB (x.b_lo+x.b_len) x.b.length&&true)&&true then some (Sum.inr ⟨x.k,x.n,List.take x.a_len (List.drop x.a_lo x.a),List.take x.b_len (List.drop x.b_lo x.b)⟩) else none
theorem JZ(x:p1X):exec E2 208 (C10.Q2 1) 2 (p1.R x) (p1.H x) (Qq 0 p1 (.exit 2) q1)=s1 x:=by kernel_rfl
def l1:QS:=Qr 0 p1 (.exit 2) q1 s1
theorem tl1:QI (C10.Q2 1) 2=[]:=by kernel_rfl
theorem Jb  :QF Try.prog 208 none 0 (C10.Q2 1) l1:=QQ mixed (Q8 QC Q5 _) (by trivial) (fun _=>rfl) (fun _=>rfl) (tl1▸QB.nil) JZ
def E1:Env:=⟨ty,QL cl,JA [(1,l1)],none⟩
structure p0X where
 k:Int
 n:Int
def p0:Pt p0X where
 own:=[]
 t:=⟨[(1,.c (.it .i64)),(2,.c (.it .i64))],[]⟩
 to:=fun v=>⟨v.1.1,v.1.2.1⟩
 fr:=fun x=>((x.k,(x.n,())),())
abbrev q0X:=Unit
def q0:Pt q0X where
 own:=[]
 t:=⟨[],[]⟩
 to:=fun v=>()
 fr:=fun x=>((),())
structure z0X where
 r:Bool
def z0:Pt z0X where
 own:=[]
 t:=⟨[(0,.c (.bo))],[]⟩
 to:=fun v=>⟨v.1.1⟩
 fr:=fun x=>((x.r,()),())
def s0(x:p0X):Option (p0X⊕(q0X⊕z0X)):=bif decide (x.n<14) then Q0 (iter s1 ⟨x.k,x.n,0,0,0,0,0,[],[]⟩) fun y=>Q0 (M4.m ⟨IntKind.u8.wrap y.n,IntKind.u8.wrap (IntKind.i64.wrap (10*y.n)),y.a,y.n⟩) fun y_1=>Q0 (bif !!y_1 then M6.m ⟨IntKind.u8.wrap y.n,IntKind.u8.wrap (IntKind.i64.wrap (10*y.n)),y.a,IntKind.u8.wrap (IntKind.i64.wrap (y.n.tdiv 2)),IntKind.u8.wrap (IntKind.i64.wrap (IntKind.i64.wrap (9*y.n)+1)),y.b,y.b⟩ else some false) fun y_2=>Q0 (bif !bif !y_1 then true else !y_2 then M3.m ⟨IntKind.u8.wrap y.n,IntKind.u8.wrap y.n,y.a,y.b⟩ else some false) fun y_3=>Q0 (bif !bif bif !y_1 then true else !y_2 then true else !y_3 then M5.m ⟨IntKind.u8.wrap y.n,IntKind.u8.wrap (IntKind.i64.wrap (y.n*5)),y.a,y.b⟩ else some false) fun y_4=>bif decide (0≤y.n)&&decide (y.n≤(↑y.a.length:Int))||!!bif bif bif !y_1 then true else !y_2 then true else !y_3 then true else !y_4 then Q0 (bif !bif bif bif !y_1 then true else !y_2 then true else !y_3 then true else !y_4 then M7.m ⟨IntKind.u8.wrap y.n,IntKind.u8.wrap (IntKind.i64.wrap (10*y.n)),y.a,IntKind.u8.wrap (IntKind.i64.wrap (y.n.tdiv 2)),IntKind.u8.wrap (IntKind.i64.wrap (IntKind.i64.wrap (9*y.n)+1)),y.b,0,0,List.take (y.a.length - y.n.toNat) (List.drop y.n.toNat y.a)⟩ else some false) fun y_5=>Q0 (bif !bif bif bif bif !y_1 then true else !y_2 then true else !y_3 then true else !y_4 then true else !y_5 then M8.m ⟨IntKind.u8.wrap y.n,0,y.a,3,0,y.b⟩ else some false) fun y_6=>bif bif bif bif bif bif !y_1 then true else !y_2 then true else !y_3 then true else !y_4 then true else !y_5 then true else !y_6 then some (Sum.inr (Sum.inr ⟨false⟩)) else some (Sum.inl ⟨y.k,IntKind.i64.wrap (y.n+1)⟩) else none else some (Sum.inr (Sum.inl PUnit.unit))
theorem QV(x:p0X):exec E1 208 (C10.Q2 0) 1 (p0.R x) (p0.H x) (J3 0 p0 (.exit 0) q0 .ret z0)=s0 x:=by kernel_rfl
def l0:QS:=J4 0 p0 (.exit 0) q0 .ret z0 s0
theorem tl0:QI (C10.Q2 0) 1=[(1,C10.Q2 1)]:=by kernel_rfl
theorem QW  :QF Try.prog 208 none 0 (C10.Q2 0) l0:=Qc mixed (Q8 QC Q5 _) (by trivial) (by trivial) (fun _=>rfl) (fun _=>rfl) (fun _=>rfl) (tl0▸(QB.cons rfl Jb QB.nil)) QV
def E0:Env:=⟨ty,QL cl,JA [(0,l0),(1,l1)],none⟩
def m(x:gX):Option fY:=Q0 (iter s0 ⟨1,0⟩) fun s=>J6 s (fun y=>Q0 (M51t.m ⟨4096⟩) fun y=>Q0 (M52e.m ⟨List.take 4097 (List.drop 0 (List.replicate 4097 (0:Int)))⟩) fun y_1=>Q0 (M45.m ⟨4097⟩) fun y_2=>Q0 (M53.m ⟨3,3⟩) fun y_3=>Q0 (M53.m ⟨-1,0⟩) fun y_4=>bif bif bif bif bif bif y.2.2==0 then (↑y.2.1.length:Int)==64 else false then y_1==3 else false then y_2.2.2==3 else false then y_3.2.2==1 else false then y_4.2.2==1 else false then Q0 (M50.m ⟨0,List.take 4097 (List.drop 0 (List.replicate 4097 (0,[])))⟩) fun y=>Q0 (bif y==3 then M9.m ⟨-1,[],64,[18446744073709551615],0,[]⟩ else some false) fun y_5=>bif bif y==3 then y_5 else false then Q0 (M9.m ⟨64,[18446744073709551615],64,[18446744073709551615],64,[(64,[18446744073709551615])]⟩) fun y=>bif y then Q0 (M9.m ⟨63,[9223372036854775808],64,[18446744073709551615],63,[(64,[18446744073709551615])]⟩) fun y=>bif y then Q0 (M9.m ⟨4097,[],1,[],4097,[(-1,[])]⟩) fun y=>Q0 (bif y then M9.m ⟨0,[],0,[],-1,[]⟩ else some false) fun y_6=>Q0 (bif bif y then y_6 else false then M19.m PUnit.unit else some false) fun y_7=>some (bif bif y then y_6 else false then y_7 else false) else none else none else none else Q0 (some false) fun y=>none) fun z=>some z.r
theorem QJ(x:gX):exec E0 208 C10 0 (QN 0 (g.A x)) (g.H x) (finish 0 ty [.tmp 0] f)=m x:=by kernel_rfl
theorem tl:QI C10 0=[(0,C10.Q2 0)]:=by kernel_rfl
theorem known:QM Try.prog 10 g f m:=
 Q9 mixed (Q8 QC Q5 _) s10 rfl rfl tl (QB.cons rfl QW QB.nil) (fun _ _=>⟨rfl,rfl⟩) (fun _ _=>⟨rfl,rfl⟩) QJ
end M10
end Go.Proofs.Ytddaobhpffpmoaa
