/-
  What the proof stands on.
-/
import Derived.Test.YtddaobhpffpmoaaGRAQGb
import Derived.Test.YtddaobhpffpmoaaGRAQGa
import Derived.Test.YtddaobhpffpmoaaGRAQGj
set_option linter.all false
noncomputable section
namespace Go.Proofs.Ytddaobhpffpmoaa
open Go.Abs
set_option maxRecDepth 100000
namespace M19
abbrev gX:=Unit
def g:Sg gX where
 vs:=[]
 h:=[]
 to:=fun a b=>()
 fa:=fun x=>()
 fh:=fun x=>()
abbrev fY:=Bool
def f:Ft fY where
 ord:=none
 sh:=.c (.bo)
 h:=[]
 to:=fun a b=>(a)
 fv:=fun y=>y
 fh:=fun y=>()
def cl:List (FuncId×Con):=[(24,M24.con),(28,M28.con),(33,M33.con),(29,M29.con),(40,M40.con),(26,M26.con),(25,M25.con),(22,M22.con),(22,M22j.Wj),(32,M32.con),(36,M36.con),(47,M47g.con),(46,M46.con),(46,M46.Wj),(52,M52.con),(51,M51t.con)]
theorem Q5:QG Try.prog cl:=⟨M24.Q1,M28.Q1,M33.Q1,M29.Q1,M40.Q1,M26.Q1,M25.Q1,M22.Q1,M22j.ZY,M32.Q1,M36.Q1,M47g.Q1,M46.Q1,M46.ZY,M52.Q1,M51t.Q1,trivial⟩
def E0:Env:=⟨ty,QL cl,fun _=>none,none⟩
def m(x:gX):Option fY:=Q0 (M24.m ⟨[1,1,0]⟩) fun y=>Q0 (M24.m ⟨[0,1,1]⟩) fun y_1=>Q0 (M28.m ⟨y.1,y.2,y_1.1,y_1.2⟩) fun y_2=>Q0 (M33.m ⟨y.1,y.2,y_1.1,y_1.2⟩) fun y_3=>Q0 (M24.m ⟨[1,0,1]⟩) fun y_4=>Q0 (M29.m ⟨3,[(y.1,y.2),(y_1.1,y_1.2)],y_4.1,y_4.2⟩) fun y_5=>Q0 (M40.m ⟨3,[(y.1,y.2),(y_1.1,y_1.2)]⟩) fun y_6=>Q0 (M26.m ⟨3,[(y.1,y.2),(y_1.1,y_1.2)]⟩) fun y_7=>Q0 (M25.m ⟨3,[(y.1,y.2),(y_1.1,y_1.2)]⟩) fun y_8=>Q0 (M24.m ⟨[1,0]⟩) fun y_9=>Q0 (M22.m ⟨3,[(y.1,y.2),(y_1.1,y_1.2)],y_9.1,y_9.2⟩) fun y=>Q0 (M24.m ⟨[1,0,1]⟩) fun y_10=>Q0 (M32.m ⟨y_10.1,y_10.2⟩) fun y_11=>Q0 (bif !bif !y_11==[49,48,49] then true else y_2.2.2 !=0 then M32.m ⟨y_2.1,y_2.2.1⟩ else some []) fun y_12=>bif !bif bif bif bif !y_11==[49,48,49] then true else y_2.2.2 !=0 then true else !y_12==[49,48,49] then true else y_3.2 !=0 then true else y_3.1 !=1 then Q0 (M24.m ⟨[1,0,1,1]⟩) fun y_13=>Q0 (M36.m ⟨y_13.1,y_13.2⟩) fun y_14=>Q0 (bif !bif y_14 !=3 then true else y_5.2.2 !=0 then M32.m ⟨y_5.1,y_5.2.1⟩ else some []) fun y_15=>bif inR 1 y_6.2.1.length||!!bif bif bif bif y_14 !=3 then true else y_5.2.2 !=0 then true else !y_15==[49,49] then true else y_6.2.2 !=0 then true else (↑y_6.2.1.length:Int) !=3 then Q0 (bif !bif bif bif bif y_14 !=3 then true else y_5.2.2 !=0 then true else !y_15==[49,49] then true else y_6.2.2 !=0 then true else (↑y_6.2.1.length:Int) !=3 then M32.m ⟨(y_6.2.1[1]?.getD (0,[])).1,(y_6.2.1[1]?.getD (0,[])).2⟩ else some []) fun y_16=>bif inR 0 y_8.1.length||!!bif bif bif bif bif bif bif bif bif y_14 !=3 then true else y_5.2.2 !=0 then true else !y_15==[49,49] then true else y_6.2.2 !=0 then true else (↑y_6.2.1.length:Int) !=3 then true else !y_16==[49,49] then true else y_7.2 !=0 then true else y_7.1 !=2 then true else y_8.2 !=0 then true else (↑y_8.1.length:Int) !=1 then Q0 (bif !bif bif bif bif bif bif bif bif bif y_14 !=3 then true else y_5.2.2 !=0 then true else !y_15==[49,49] then true else y_6.2.2 !=0 then true else (↑y_6.2.1.length:Int) !=3 then true else !y_16==[49,49] then true else y_7.2 !=0 then true else y_7.1 !=2 then true else y_8.2 !=0 then true else (↑y_8.1.length:Int) !=1 then M32.m ⟨(y_8.1[0]?.getD (0,[])).1,(y_8.1[0]?.getD (0,[])).2⟩ else some []) fun y_17=>Q0 (bif !bif bif bif bif bif bif bif bif bif bif bif y_14 !=3 then true else y_5.2.2 !=0 then true else !y_15==[49,49] then true else y_6.2.2 !=0 then true else (↑y_6.2.1.length:Int) !=3 then true else !y_16==[49,49] then true else y_7.2 !=0 then true else y_7.1 !=2 then true else y_8.2 !=0 then true else (↑y_8.1.length:Int) !=1 then true else !y_17==[49,49,49] then true else y.2.2 !=0 then M32.m ⟨y.1,y.2.1⟩ else some []) fun y_18=>bif bif bif bif bif bif bif bif bif bif bif bif bif y_14 !=3 then true else y_5.2.2 !=0 then true else !y_15==[49,49] then true else y_6.2.2 !=0 then true else (↑y_6.2.1.length:Int) !=3 then true else !y_16==[49,49] then true else y_7.2 !=0 then true else y_7.1 !=2 then true else y_8.2 !=0 then true else (↑y_8.1.length:Int) !=1 then true else !y_17==[49,49,49] then true else y.2.2 !=0 then true else !y_18==[49,48,48] then some false else Q0 (M24.m ⟨[1,1]⟩) fun y=>Q0 (M24.m ⟨[1,1]⟩) fun y_19=>Q0 (M24.m ⟨[1,0]⟩) fun y_20=>Q0 (M22j.m ⟨2,List.take 2 (List.drop 0 [(y.1,y.2),(y_19.1,y_19.2)]),y_20.1,y_20.2⟩) fun y_21=>Q0 (M24.m ⟨[0,1]⟩) fun y_22=>bif decide (1<2) then Q0 (M47g.m ⟨2,0,2,2,[(y.1,y.2),(y_19.1,y_19.2)].set 1 (y_22.1,y_22.2)⟩) fun y=>Q0 (M52.m ⟨[2]⟩) fun y_23=>Q0 (M51t.m ⟨-1⟩) fun y_24=>Q0 (M51t.m ⟨4097⟩) fun y_25=>Q0 (bif bif y_21==9 then y.2.2.1==0 else false then bif leB 2 y.2.2.2.length&&true&&true then M46.m ⟨y.1,y.2.1,2,List.take 2 (List.drop 0 y.2.2.2)⟩ else none else some false) fun y_26=>some (bif bif bif bif bif y_21==9 then y.2.2.1==0 else false then y_26 else false then y_23.2.2==1 else false then y_24.2.2==1 else false then y_25.2.2==3 else false) else none else none else none else Q0 (some ([]:List UInt8)) fun y=>bif inR 1 y_6.2.1.length||true then Q0 (some ([]:List UInt8)) fun y=>bif inR 0 y_8.1.length||true then Q0 (some ([]:List UInt8)) fun y=>Q0 (some ([]:List UInt8)) fun y=>some false else none else none
theorem QJ(x:gX):exec E0 224 C19 0 (QN 0 (g.A x)) (g.H x) (finish 0 ty [.tmp 0] f)=m x:=by kernel_rfl
theorem tl:QI C19 0=[]:=by kernel_rfl
theorem known:QM Try.prog 19 g f m:=
 Q9 mixed (Q8 QC Q5 _) s19 rfl rfl tl QB.nil (fun _ _=>⟨rfl,rfl⟩) (fun _ _=>⟨rfl,rfl⟩) QJ
def con:Con:=Qx g f m default
theorem Q1:QO Try.prog 19 con:=QE known (fun _=>rfl) rfl
end M19
end Go.Proofs.Ytddaobhpffpmoaa
namespace Go.Proofs.Ytddaobhpffpmoaa
open Go.Abs
set_option maxRecDepth 100000
namespace M30
structure gX where
 n:Int
 w:List (Int)
 l:List (Int)
def g:Sg gX where
 vs:=[.agg [.it .i64,.arr (.int .u64)],.c (.arr (.int .u8))]
 h:=[]
 to:=fun a b=>⟨a.1.1,a.1.2.1,a.2.1⟩
 fa:=fun x=>((x.n,(x.w,())),(x.l,()))
 fh:=fun x=>()
abbrev fY:=Bool
def f:Ft fY where
 ord:=none
 sh:=.c (.bo)
 h:=[]
 to:=fun a b=>(a)
 fv:=fun y=>y
 fh:=fun y=>()
def cl:List (FuncId×Con):=[(38,M38.con),(32,M32.con),(78,M78.con)]
theorem Q5:QG Try.prog cl:=⟨M38.Q1,M32.Q1,M78.Q1,trivial⟩
def E0:Env:=⟨ty,QL cl,fun _=>none,none⟩
def m(x:gX):Option fY:=Q0 (M38.m ⟨x.n,x.w⟩) fun y=>Q0 (bif bif y==0 then x.n==(↑x.l.length:Int) else false then M32.m ⟨x.n,x.w⟩ else some []) fun y_1=>Q0 (bif bif y==0 then x.n==(↑x.l.length:Int) else false then M78.m ⟨x.l⟩ else some []) fun y_2=>some (bif bif y==0 then x.n==(↑x.l.length:Int) else false then y_1==y_2 else false)
theorem QJ(x:gX):exec E0 22 C30 0 (QN 0 (g.A x)) (g.H x) (finish 0 ty [.tmp 4] f)=m x:=by kernel_rfl
theorem tl:QI C30 0=[]:=by kernel_rfl
theorem known:QM Try.prog 30 g f m:=
 Q9 mixed (Q8 QC Q5 _) s30 rfl rfl tl QB.nil (fun _ _=>⟨rfl,rfl⟩) (fun _ _=>⟨rfl,rfl⟩) QJ
def con:Con:=Qx g f m default
theorem Q1:QO Try.prog 30 con:=QE known (fun _=>rfl) rfl
end M30
namespace M41
structure gX where
 c:Int
 rows:List ((Int)×List (Int))
 e:Int
 l:List (List (Int))
 k:Int
def g:Sg gX where
 vs:=[.agg [.it .i64,.arr (.pair (.int .i64) (.sl (.int .u64)))],.c (.it .i64),.c (.arr (.sl (.int .u8))),.c (.it .i64)]
 h:=[]
 to:=fun a b=>⟨a.1.1,a.1.2.1,a.2.1,a.2.2.1,a.2.2.2.1⟩
 fa:=fun x=>((x.c,(x.rows,())),(x.e,(x.l,(x.k,()))))
 fh:=fun x=>()
abbrev fY:=Bool
def f:Ft fY where
 ord:=none
 sh:=.c (.bo)
 h:=[]
 to:=fun a b=>(a)
 fv:=fun y=>y
 fh:=fun y=>()
def cl:List (FuncId×Con):=[(50,M50.con),(30,M30.con)]
theorem Q5:QG Try.prog cl:=⟨M50.Q1,M30.Q1,trivial⟩
def E1:Env:=⟨ty,QL cl,fun _=>none,none⟩
structure p0X where
 l:List (List (Int))
 i:Int
 c:Int
 rows:List ((Int)×List (Int))
def p0:Pt p0X where
 own:=[]
 t:=⟨[(2,.c (.arr (.sl (.int .u8)))),(4,.c (.ptr 0 0)),(9,.c (.it .i64))],[.st [.it .i64,.arr (.pair (.int .i64) (.sl (.int .u64)))] 1 0]⟩
 to:=fun v=>⟨v.1.1,v.1.2.2.1,v.2.1.1,v.2.1.2.1⟩
 fr:=fun x=>((x.l,((),(x.i,()))),((x.c,(x.rows,())),()))
abbrev q0X:=Unit
def q0:Pt q0X where
 own:=[]
 t:=⟨[],[]⟩
 to:=fun v=>()
 fr:=fun x=>((),())
structure z0X where
 r:Bool
def z0:Pt z0X where
 own:=[]
 t:=⟨[(8,.c (.bo))],[]⟩
 to:=fun v=>⟨v.1.1⟩
 fr:=fun x=>((x.r,()),())
def s0(x:p0X):Option (p0X⊕(q0X⊕z0X)):=bif decide (x.i<(↑x.l.length:Int)) then bif inR x.i x.rows.length then bif inR x.i x.l.length then Q0 (M30.m ⟨(x.rows[x.i.toNat]?.getD (0,[])).1,(x.rows[x.i.toNat]?.getD (0,[])).2,x.l[x.i.toNat]?.getD []⟩) fun y=>bif !y then some (Sum.inr (Sum.inr ⟨false⟩)) else some (Sum.inl ⟨x.l,IntKind.i64.wrap (x.i+1),x.c,x.rows⟩) else none else none else some (Sum.inr (Sum.inl PUnit.unit))
theorem QV(x:p0X):exec E1 48 (C41.Q2 0) 1 (p0.R x) (p0.H x) (J3 0 p0 (.exit 0) q0 .ret z0)=s0 x:=by kernel_rfl
def l0:QS:=J4 0 p0 (.exit 0) q0 .ret z0 s0
theorem tl0:QI (C41.Q2 0) 1=[]:=by kernel_rfl
theorem QW  :QF Try.prog 48 none 0 (C41.Q2 0) l0:=Qc mixed (Q8 QC Q5 _) (by trivial) (by trivial) (fun _=>rfl) (fun _=>rfl) (fun _=>rfl) (tl0▸QB.nil) QV
def E0:Env:=⟨ty,QL cl,JA [(0,l0)],none⟩
def m(x:gX):Option fY:=Q0 (bif !x.e !=0 then M50.m ⟨x.c,x.rows⟩ else some (Int.ofNat 0)) fun y=>bif bif bif bif x.e !=0 then true else y !=0 then true else x.c !=x.k then true else (↑x.rows.length:Int) !=(↑x.l.length:Int) then some false else Q0 (iter s0 ⟨x.l,0,x.c,x.rows⟩) fun s=>J6 s (fun y=>some true) fun z=>some z.r
theorem QJ(x:gX):exec E0 48 C41 0 (QN 0 (g.A x)) (g.H x) (finish 0 ty [.tmp 8] f)=m x:=by kernel_rfl
theorem tl:QI C41 0=[(0,C41.Q2 0)]:=by kernel_rfl
theorem known:QM Try.prog 41 g f m:=
 Q9 mixed (Q8 QC Q5 _) s41 rfl rfl tl (QB.cons rfl QW QB.nil) (fun _ _=>⟨rfl,rfl⟩) (fun _ _=>⟨rfl,rfl⟩) QJ
def con:Con:=Qx g f m default
theorem Q1:QO Try.prog 41 con:=QE known (fun _=>rfl) rfl
end M41
end Go.Proofs.Ytddaobhpffpmoaa
namespace Go.Proofs.Ytddaobhpffpmoaa
open Go.Abs
set_option maxRecDepth 100000
namespace M27
structure gX where
 m:List (List (Int))
 c:Int
 b:List (Int)
def g:Sg gX where
 vs:=[.c (.arr (.sl (.int .u8))),.c (.it .i64),.c (.arr (.int .u8))]
 h:=[]
 to:=fun a b=>⟨a.1,a.2.1,a.2.2.1⟩
 fa:=fun x=>(x.m,(x.c,(x.b,())))
 fh:=fun x=>()
abbrev fY:=List (List (Int))
def f:Ft fY where
 ord:=none
 sh:=.c (.arr (.sl (.int .u8)))
 h:=[]
 to:=fun a b=>(a)
 fv:=fun y=>y
 fh:=fun y=>()
def cl:List (FuncId×Con):=[(44,M44.con),(78,M78.con)]
theorem Q5:QG Try.prog cl:=⟨M44.Q1,M78.Q1,trivial⟩
def E2:Env:=⟨ty,QL cl,fun _=>none,none⟩
structure p1X where
 m:List (List (Int))
 c:Int
 b:List (Int)
 out_lo:Nat
 out_len:Nat
 n:Int
 x_lo:Nat
 x_len:Nat
 i:Int
 out:List (List (Int))
 x:List (Int)
def p1:Pt p1X where
 own:=[.reg 9 (.int .u8)]
 t:=⟨[(0,.c (.arr (.sl (.int .u8)))),(1,.c (.it .i64)),(2,.c (.arr (.int .u8))),(7,.c (.sl 0 0 1)),(8,.c (.it .i64)),(9,.c (.sl 1 0 1)),(10,.c (.it .i64))],[.arr (.sl (.int .u8)) 0,.arr (.int .u8) 0]⟩
 to:=fun v=>⟨v.1.1,v.1.2.1,v.1.2.2.1,v.1.2.2.2.1.1,v.1.2.2.2.1.2,v.1.2.2.2.2.1,v.1.2.2.2.2.2.1.1,v.1.2.2.2.2.2.1.2,v.1.2.2.2.2.2.2.1,v.2.1,v.2.2.1⟩
 fr:=fun x=>((x.m,(x.c,(x.b,((x.out_lo,x.out_len),(x.n,((x.x_lo,x.x_len),(x.i,()))))))),(x.out,(x.x,())))
structure q1X where
 m:List (List (Int))
 c:Int
 b:List (Int)
 out_lo:Nat
 out_len:Nat
 n:Int
 x:List (Int)
 out:List (List (Int))
def q1:Pt q1X where
 own:=[]
 t:=⟨[(0,.c (.arr (.sl (.int .u8)))),(1,.c (.it .i64)),(2,.c (.arr (.int .u8))),(7,.c (.sl 0 0 1)),(8,.c (.it .i64)),(9,.c (.arr (.int .u8)))],[.arr (.sl (.int .u8)) 0]⟩
 to:=fun v=>⟨v.1.1,v.1.2.1,v.1.2.2.1,v.1.2.2.2.1.1,v.1.2.2.2.1.2,v.1.2.2.2.2.1,v.1.2.2.2.2.2.1,v.2.1⟩
 fr:=fun x=>((x.m,(x.c,(x.b,((x.out_lo,x.out_len),(x.n,(x.x,())))))),(x.out,()))
def s1(x:p1X):Option (p1X⊕q1X):=bif decide (x.i<x.c) then bif decide (0≤x.i) then bif eqN x.x_lo 0&&eqN x.x.length x.x_len&&QP (x.x_len+1) 1 then some (Sum.inl ⟨x.m,x.c,x.b,x.out_lo,x.out_len,x.n,0,x.x_len+1,IntKind.i64.wrap (x.i+1),x.out,x.x++[IntKind.u8.wrap (IntKind.i64.wrap (↑(BitVec.ofInt 64 (x.n.fdiv (2^min x.i.toNat 64))&&&BitVec.ofInt 64 1).toNat:Int))]⟩) else none else none else bif leB (x.x_lo+x.x_len) x.x.length&&true&&true then some (Sum.inr ⟨x.m,x.c,x.b,x.out_lo,x.out_len,x.n,List.take x.x_len (List.drop x.x_lo x.x),x.out⟩) else none
theorem JZ(x:p1X):exec E2 42 (C27.Q2 1) 2 (p1.R x) (p1.H x) (Qq 0 p1 (.exit 2) q1)=s1 x:=by kernel_rfl
def l1:QS:=Qr 0 p1 (.exit 2) q1 s1
theorem tl1:QI (C27.Q2 1) 2=[]:=by kernel_rfl
theorem Jb  :QF Try.prog 42 none 0 (C27.Q2 1) l1:=QQ mixed (Q8 QC Q5 _) (by trivial) (fun _=>rfl) (fun _=>rfl) (tl1▸QB.nil) JZ
def E1:Env:=⟨ty,QL cl,JA [(1,l1)],none⟩
structure p0X where
 m:List (List (Int))
 c:Int
 b:List (Int)
 out_lo:Nat
 out_len:Nat
 n:Int
 out:List (List (Int))
def p0:Pt p0X where
 own:=[.reg 7 (.sl (.int .u8))]
 t:=⟨[(0,.c (.arr (.sl (.int .u8)))),(1,.c (.it .i64)),(2,.c (.arr (.int .u8))),(7,.c (.sl 0 0 1)),(8,.c (.it .i64))],[.arr (.sl (.int .u8)) 0]⟩
 to:=fun v=>⟨v.1.1,v.1.2.1,v.1.2.2.1,v.1.2.2.2.1.1,v.1.2.2.2.1.2,v.1.2.2.2.2.1,v.2.1⟩
 fr:=fun x=>((x.m,(x.c,(x.b,((x.out_lo,x.out_len),(x.n,()))))),(x.out,()))
structure q0X where
 out_lo:Nat
 out_len:Nat
 out:List (List (Int))
def q0:Pt q0X where
 own:=[]
 t:=⟨[(7,.c (.sl 0 0 1))],[.arr (.sl (.int .u8)) 0]⟩
 to:=fun v=>⟨v.1.1.1,v.1.1.2,v.2.1⟩
 fr:=fun x=>(((x.out_lo,x.out_len),()),(x.out,()))
def s0(x:p0X):Option (p0X⊕q0X):=bif decide (0≤x.c) then bif decide (x.n<IntKind.i64.wrap (1*2^min x.c.toNat 64)) then Q0 (iter s1 ⟨x.m,x.c,x.b,x.out_lo,x.out_len,x.n,0,0,0,x.out,[]⟩) fun y=>Q0 (M44.m ⟨y.m,y.x⟩) fun y_1=>Q0 (M78.m ⟨y_1⟩) fun y_2=>Q0 (M78.m ⟨y.b⟩) fun y_3=>bif y_2==y_3 then bif eqN y.out_lo 0&&eqN y.out.length y.out_len&&QP (y.out_len+1) 24 then some (Sum.inl ⟨y.m,y.c,y.b,0,y.out_len+1,IntKind.i64.wrap (y.n+1),y.out++[y.x]⟩) else none else some (Sum.inl ⟨y.m,y.c,y.b,y.out_lo,y.out_len,IntKind.i64.wrap (y.n+1),y.out⟩) else some (Sum.inr ⟨x.out_lo,x.out_len,x.out⟩) else none
theorem QV(x:p0X):exec E1 42 (C27.Q2 0) 1 (p0.R x) (p0.H x) (Qq 0 p0 (.exit 0) q0)=s0 x:=by kernel_rfl
def l0:QS:=Qr 0 p0 (.exit 0) q0 s0
theorem tl0:QI (C27.Q2 0) 1=[(1,C27.Q2 1)]:=by kernel_rfl
theorem QW  :QF Try.prog 42 none 0 (C27.Q2 0) l0:=QQ mixed (Q8 QC Q5 _) (by trivial) (fun _=>rfl) (fun _=>rfl) (tl0▸(QB.cons rfl Jb QB.nil)) QV
def E0:Env:=⟨ty,QL cl,JA [(0,l0),(1,l1)],none⟩
def m(x:gX):Option fY:=Q0 (iter s0 ⟨x.m,x.c,x.b,0,0,0,[]⟩) fun y=>bif leB (y.out_lo+y.out_len) y.out.length&&true&&true then some (List.take y.out_len (List.drop y.out_lo y.out)) else none
theorem QJ(x:gX):exec E0 42 C27 0 (QN 0 (g.A x)) (g.H x) (finish 0 ty [.tmp 6] f)=m x:=by kernel_rfl
theorem tl:QI C27 0=[(0,C27.Q2 0)]:=by kernel_rfl
theorem known:QM Try.prog 27 g f m:=
 Q9 mixed (Q8 QC Q5 _) s27 rfl rfl tl (QB.cons rfl QW QB.nil) (fun _ _=>⟨rfl,rfl⟩) (fun _ _=>⟨rfl,rfl⟩) QJ
def con:Con:=Qx g f m default
theorem Q1:QO Try.prog 27 con:=QE known (fun _=>rfl) rfl
end M27
end Go.Proofs.Ytddaobhpffpmoaa
namespace Go.Proofs.Ytddaobhpffpmoaa
open Go.Abs
set_option maxRecDepth 100000
namespace M31
structure gX where
 n:Int
 w:List (Int)
 l:List ((Int)×List (Int))
 k:Int
def g:Sg gX where
 vs:=[.agg [.it .i64,.arr (.int .u64)],.c (.arr (.pair (.int .i64) (.sl (.int .u64)))),.c (.it .i64)]
 h:=[]
 to:=fun a b=>⟨a.1.1,a.1.2.1,a.2.1,a.2.2.1⟩
 fa:=fun x=>((x.n,(x.w,())),(x.l,(x.k,())))
 fh:=fun x=>()
abbrev fY:=List UInt8
def f:Ft fY where
 ord:=none
 sh:=.c (.sg)
 h:=[]
 to:=fun a b=>(a)
 fv:=fun y=>y
 fh:=fun y=>()
def cl:List (FuncId×Con):=[(28,M28.con),(32,M32.con)]
theorem Q5:QG Try.prog cl:=⟨M28.Q1,M32.Q1,trivial⟩
def E1:Env:=⟨ty,QL cl,fun _=>none,none⟩
structure p0X where
 l:List ((Int)×List (Int))
 k:Int
 i:Int
 n:Int
 w:List (Int)
def p0:Pt p0X where
 own:=[]
 t:=⟨[(1,.c (.arr (.pair (.int .i64) (.sl (.int .u64))))),(2,.c (.it .i64)),(3,.c (.ptr 0 0)),(7,.c (.it .i64))],[.st [.it .i64,.arr (.int .u64)] 1 0]⟩
 to:=fun v=>⟨v.1.1,v.1.2.1,v.1.2.2.2.1,v.2.1.1,v.2.1.2.1⟩
 fr:=fun x=>((x.l,(x.k,((),(x.i,())))),((x.n,(x.w,())),()))
structure q0X where
 n:Int
 w:List (Int)
def q0:Pt q0X where
 own:=[]
 t:=⟨[(3,.c (.ptr 0 0))],[.st [.it .i64,.arr (.int .u64)] 1 0]⟩
 to:=fun v=>⟨v.2.1.1,v.2.1.2.1⟩
 fr:=fun x=>(((),()),((x.n,(x.w,())),()))
def s0(x:p0X):Option (p0X⊕q0X):=bif decide (x.i<(↑x.l.length:Int)) then bif decide (0≤x.i) then bif IntKind.i64.wrap (↑(BitVec.ofInt 64 (x.k.fdiv (2^min x.i.toNat 64))&&&BitVec.ofInt 64 1).toNat:Int)==1 then bif inR x.i x.l.length then Q0 (M28.m ⟨x.n,x.w,(x.l[x.i.toNat]?.getD (0,[])).1,(x.l[x.i.toNat]?.getD (0,[])).2⟩) fun y=>some (Sum.inl ⟨x.l,x.k,IntKind.i64.wrap (x.i+1),y.1,y.2.1⟩) else none else some (Sum.inl ⟨x.l,x.k,IntKind.i64.wrap (x.i+1),x.n,x.w⟩) else none else some (Sum.inr ⟨x.n,x.w⟩)
theorem QV(x:p0X):exec E1 30 (C31.Q2 0) 1 (p0.R x) (p0.H x) (Qq 0 p0 (.exit 0) q0)=s0 x:=by kernel_rfl
def l0:QS:=Qr 0 p0 (.exit 0) q0 s0
theorem tl0:QI (C31.Q2 0) 1=[]:=by kernel_rfl
theorem QW  :QF Try.prog 30 none 0 (C31.Q2 0) l0:=QQ mixed (Q8 QC Q5 _) (by trivial) (fun _=>rfl) (fun _=>rfl) (tl0▸QB.nil) QV
def E0:Env:=⟨ty,QL cl,JA [(0,l0)],none⟩
def m(x:gX):Option fY:=Q0 (iter s0 ⟨x.l,x.k,0,x.n,x.w⟩) fun y=>Q0 (M32.m ⟨y.n,y.w⟩) fun y=>some y
theorem QJ(x:gX):exec E0 30 C31 0 (QN 0 (g.A x)) (g.H x) (finish 0 ty [.tmp 6] f)=m x:=by kernel_rfl
theorem tl:QI C31 0=[(0,C31.Q2 0)]:=by kernel_rfl
theorem known:QM Try.prog 31 g f m:=
 Q9 mixed (Q8 QC Q5 _) s31 rfl rfl tl (QB.cons rfl QW QB.nil) (fun _ _=>⟨rfl,rfl⟩) (fun _ _=>⟨rfl,rfl⟩) QJ
def con:Con:=Qx g f m default
theorem Q1:QO Try.prog 31 con:=QE known (fun _=>rfl) rfl
end M31
end Go.Proofs.Ytddaobhpffpmoaa
