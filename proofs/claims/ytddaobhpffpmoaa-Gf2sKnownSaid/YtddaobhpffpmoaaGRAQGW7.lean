/-
  The functions of gf2s and shifters, run on symbolic values.
-/
import Derived.Test.YtddaobhpffpmoaaGRAQGc
set_option linter.all false
noncomputable section
namespace Go.Proofs.Ytddaobhpffpmoaa
open Go.Abs
set_option maxRecDepth 100000
namespace M5
structure gX where
 mr:Int
 mc:Int
 ma:List (Int)
 side:List (Int)
def g:Sg gX where
 vs:=[.agg [.it .u8,.it .u8,.arr (.int .u8)],.c (.arr (.int .u8))]
 h:=[]
 to:=fun a b=>⟨a.1.1,a.1.2.1,a.1.2.2.1,a.2.1⟩
 fa:=fun x=>((x.mr,(x.mc,(x.ma,()))),(x.side,()))
 fh:=fun x=>()
abbrev fY:=Bool
def f:Ft fY where
 ord:=none
 sh:=.c (.bo)
 h:=[]
 to:=fun a b=>(a)
 fv:=fun y=>y
 fh:=fun y=>()
def cl:List (FuncId×Con):=[(18,M18.con),(19,M19.con),(20,M20.con),(21,M21.con),(23,M23.con),(24,M24.con),(22,M22.con),(25,M25.con),(26,M26.con),(29,M29.con),(30,M30.con),(36,M36.con),(37,M37.con),(38,M38.con)]
theorem Q5:QG Try.prog cl:=⟨M18.Q1,M19.Q1,M20.Q1,M21.Q1,M23.Q1,M24.Q1,M22.Q1,M25.Q1,M26.Q1,M29.Q1,M30.Q1,M36.Q1,M37.Q1,M38.Q1,trivial⟩
def E4:Env:=⟨ty,QL cl,fun _=>none,none⟩
structure p3X where
 nr:Int
 c:Int
 free:List (Int)
 ker:List ((Int)×List (Int))
 b:List (Int)
 g:Int
 i:Int
 k:Int
 mr:Int
 mc:Int
 ma:List (Int)
 wc:Int
 wr:List ((Int)×List (Int))
 xn:Int
 xw:List (Int)
def p3:Pt p3X where
 own:=[]
 t:=⟨[(5,.c (.it .i64)),(6,.c (.it .i64)),(8,.c (.ptr 1 0)),(9,.c (.arr (.int .i64))),(16,.c (.arr (.pair (.int .i64) (.sl (.int .u64))))),(18,.c (.arr (.int .u8))),(19,.c (.ptr 2 0)),(20,.c (.it .i64)),(21,.c (.it .i64)),(22,.c (.it .i64))],[.st [.it .u8,.it .u8,.arr (.int .u8)] 1 0,.st [.it .i64,.arr (.pair (.int .i64) (.sl (.int .u64)))] 1 0,.st [.it .i64,.arr (.int .u64)] 1 0]⟩
 to:=fun v=>⟨v.1.1,v.1.2.1,v.1.2.2.2.1,v.1.2.2.2.2.1,v.1.2.2.2.2.2.1,v.1.2.2.2.2.2.2.2.1,v.1.2.2.2.2.2.2.2.2.1,v.1.2.2.2.2.2.2.2.2.2.1,v.2.1.1,v.2.1.2.1,v.2.1.2.2.1,v.2.2.1.1,v.2.2.1.2.1,v.2.2.2.1.1,v.2.2.2.1.2.1⟩
 fr:=fun x=>((x.nr,(x.c,((),(x.free,(x.ker,(x.b,((),(x.g,(x.i,(x.k,())))))))))),((x.mr,(x.mc,(x.ma,()))),((x.wc,(x.wr,())),((x.xn,(x.xw,())),()))))
structure q3X where
 nr:Int
 c:Int
 free:List (Int)
 ker:List ((Int)×List (Int))
 b:List (Int)
 g:Int
 i:Int
 mr:Int
 mc:Int
 ma:List (Int)
 wc:Int
 wr:List ((Int)×List (Int))
 xn:Int
 xw:List (Int)
def q3:Pt q3X where
 own:=[]
 t:=⟨[(5,.c (.it .i64)),(6,.c (.it .i64)),(8,.c (.ptr 1 0)),(9,.c (.arr (.int .i64))),(16,.c (.arr (.pair (.int .i64) (.sl (.int .u64))))),(18,.c (.arr (.int .u8))),(19,.c (.ptr 2 0)),(20,.c (.it .i64)),(21,.c (.it .i64))],[.st [.it .u8,.it .u8,.arr (.int .u8)] 1 0,.st [.it .i64,.arr (.pair (.int .i64) (.sl (.int .u64)))] 1 0,.st [.it .i64,.arr (.int .u64)] 1 0]⟩
 to:=fun v=>⟨v.1.1,v.1.2.1,v.1.2.2.2.1,v.1.2.2.2.2.1,v.1.2.2.2.2.2.1,v.1.2.2.2.2.2.2.2.1,v.1.2.2.2.2.2.2.2.2.1,v.2.1.1,v.2.1.2.1,v.2.1.2.2.1,v.2.2.1.1,v.2.2.1.2.1,v.2.2.2.1.1,v.2.2.2.1.2.1⟩
 fr:=fun x=>((x.nr,(x.c,((),(x.free,(x.ker,(x.b,((),(x.g,(x.i,()))))))))),((x.mr,(x.mc,(x.ma,()))),((x.wc,(x.wr,())),((x.xn,(x.xw,())),()))))
structure z3X where
 r:Bool
def z3:Pt z3X where
 own:=[]
 t:=⟨[(4,.c (.bo))],[]⟩
 to:=fun v=>⟨v.1.1⟩
 fr:=fun x=>((x.r,()),())
def s3(x:p3X):Option (p3X⊕(q3X⊕z3X)):=bif decide (x.k<(↑x.free.length:Int)) then bif inR x.i x.ker.length then bif inR x.k x.free.length then Q0 (M37.m ⟨(x.ker[x.i.toNat]?.getD (0,[])).1,(x.ker[x.i.toNat]?.getD (0,[])).2,x.free[x.k.toNat]?.getD 0⟩) fun y=>bif inR x.k x.free.length||!((!y !=bif x.i==x.k then 1 else 0)&&x.g==0) then Q0 (bif (!y !=bif x.i==x.k then 1 else 0)&&x.g==0 then M37.m ⟨x.xn,x.xw,x.free[x.k.toNat]?.getD 0⟩ else some (Int.ofNat 0)) fun y_1=>bif bif y !=bif x.i==x.k then 1 else 0 then true else bif x.g==0 then y_1 !=0 else false then some (Sum.inr (Sum.inr ⟨false⟩)) else some (Sum.inl ⟨x.nr,x.c,x.free,x.ker,x.b,x.g,x.i,IntKind.i64.wrap (x.k+1),x.mr,x.mc,x.ma,x.wc,x.wr,x.xn,x.xw⟩) else none else none else none else some (Sum.inr (Sum.inl ⟨x.nr,x.c,x.free,x.ker,x.b,x.g,x.i,x.mr,x.mc,x.ma,x.wc,x.wr,x.xn,x.xw⟩))
theorem s3_eq(x:p3X):exec E4 229 (C5.Q2 3) 4 (p3.R x) (p3.H x) (J3 0 p3 (.exit 6) q3 .ret z3)=s3 x:=by kernel_rfl
def l3:QS:=J4 0 p3 (.exit 6) q3 .ret z3 s3
theorem tl3:QI (C5.Q2 3) 4=[]:=by kernel_rfl
theorem l3_ok  :QF Try.prog 229 none 0 (C5.Q2 3) l3:=Qc mixed (Q8 QC Q5 _) (by trivial) (by trivial) (fun _=>rfl) (fun _=>rfl) (fun _=>rfl) (tl3▸QB.nil) s3_eq
def E3:Env:=⟨ty,QL cl,JA [(3,l3)],none⟩
structure p2X where
 nr:Int
 c:Int
 free:List (Int)
 ker:List ((Int)×List (Int))
 b:List (Int)
 g:Int
 i:Int
 mr:Int
 mc:Int
 ma:List (Int)
 wc:Int
 wr:List ((Int)×List (Int))
 xn:Int
 xw:List (Int)
def p2:Pt p2X where
 own:=[]
 t:=⟨[(5,.c (.it .i64)),(6,.c (.it .i64)),(8,.c (.ptr 1 0)),(9,.c (.arr (.int .i64))),(16,.c (.arr (.pair (.int .i64) (.sl (.int .u64))))),(18,.c (.arr (.int .u8))),(19,.c (.ptr 2 0)),(20,.c (.it .i64)),(21,.c (.it .i64))],[.st [.it .u8,.it .u8,.arr (.int .u8)] 1 0,.st [.it .i64,.arr (.pair (.int .i64) (.sl (.int .u64)))] 1 0,.st [.it .i64,.arr (.int .u64)] 1 0]⟩
 to:=fun v=>⟨v.1.1,v.1.2.1,v.1.2.2.2.1,v.1.2.2.2.2.1,v.1.2.2.2.2.2.1,v.1.2.2.2.2.2.2.2.1,v.1.2.2.2.2.2.2.2.2.1,v.2.1.1,v.2.1.2.1,v.2.1.2.2.1,v.2.2.1.1,v.2.2.1.2.1,v.2.2.2.1.1,v.2.2.2.1.2.1⟩
 fr:=fun x=>((x.nr,(x.c,((),(x.free,(x.ker,(x.b,((),(x.g,(x.i,()))))))))),((x.mr,(x.mc,(x.ma,()))),((x.wc,(x.wr,())),((x.xn,(x.xw,())),()))))
structure q2X where
 b:List (Int)
 g:Int
 mr:Int
 mc:Int
 ma:List (Int)
 wc:Int
 wr:List ((Int)×List (Int))
 xn:Int
 xw:List (Int)
def q2:Pt q2X where
 own:=[]
 t:=⟨[(8,.c (.ptr 1 0)),(18,.c (.arr (.int .u8))),(19,.c (.ptr 2 0)),(20,.c (.it .i64))],[.st [.it .u8,.it .u8,.arr (.int .u8)] 1 0,.st [.it .i64,.arr (.pair (.int .i64) (.sl (.int .u64)))] 1 0,.st [.it .i64,.arr (.int .u64)] 1 0]⟩
 to:=fun v=>⟨v.1.2.1,v.1.2.2.2.1,v.2.1.1,v.2.1.2.1,v.2.1.2.2.1,v.2.2.1.1,v.2.2.1.2.1,v.2.2.2.1.1,v.2.2.2.1.2.1⟩
 fr:=fun x=>(((),(x.b,((),(x.g,())))),((x.mr,(x.mc,(x.ma,()))),((x.wc,(x.wr,())),((x.xn,(x.xw,())),()))))
structure z2X where
 r:Bool
def z2:Pt z2X where
 own:=[]
 t:=⟨[(4,.c (.bo))],[]⟩
 to:=fun v=>⟨v.1.1⟩
 fr:=fun x=>((x.r,()),())
def s2(x:p2X):Option (p2X⊕(q2X⊕z2X)):=bif decide (x.i<(↑x.ker.length:Int)) then bif inR x.i x.ker.length then bif inR x.i x.ker.length||!!(x.ker[x.i.toNat]?.getD (0,[])).1 !=x.c then Q0 (bif !(x.ker[x.i.toNat]?.getD (0,[])).1 !=x.c then M38.m ⟨(x.ker[x.i.toNat]?.getD (0,[])).1,(x.ker[x.i.toNat]?.getD (0,[])).2⟩ else some (Int.ofNat 0)) fun y=>bif bif (x.ker[x.i.toNat]?.getD (0,[])).1 !=x.c then true else y !=0 then some (Sum.inr (Sum.inr ⟨false⟩)) else Q0 (iter s3 ⟨x.nr,x.c,x.free,x.ker,x.b,x.g,x.i,0,x.mr,x.mc,x.ma,x.wc,x.wr,x.xn,x.xw⟩) fun s=>J6 s (fun y=>bif inR y.i y.ker.length then Q0 (M29.m ⟨y.wc,y.wr,(y.ker[y.i.toNat]?.getD (0,[])).1,(y.ker[y.i.toNat]?.getD (0,[])).2⟩) fun y_1=>Q0 (bif !y_1.2.2 !=0 then M36.m ⟨y_1.1,y_1.2.1⟩ else some (Int.ofNat 0)) fun y_2=>bif bif bif y_1.2.2 !=0 then true else y_2 !=0 then true else y_1.1 !=y.nr then some (Sum.inr (Sum.inr ⟨false⟩)) else some (Sum.inl ⟨y.nr,y.c,y.free,y.ker,y.b,y.g,IntKind.i64.wrap (y.i+1),y.mr,y.mc,y.ma,y.wc,y.wr,y.xn,y.xw⟩) else none) fun z=>some (Sum.inr (Sum.inr ⟨z.r⟩)) else none else none else some (Sum.inr (Sum.inl ⟨x.b,x.g,x.mr,x.mc,x.ma,x.wc,x.wr,x.xn,x.xw⟩))
theorem s2_eq(x:p2X):exec E3 229 (C5.Q2 2) 3 (p2.R x) (p2.H x) (J3 0 p2 (.exit 4) q2 .ret z2)=s2 x:=by kernel_rfl
def l2:QS:=J4 0 p2 (.exit 4) q2 .ret z2 s2
theorem tl2:QI (C5.Q2 2) 3=[(3,C5.Q2 3)]:=by kernel_rfl
theorem l2_ok  :QF Try.prog 229 none 0 (C5.Q2 2) l2:=Qc mixed (Q8 QC Q5 _) (by trivial) (by trivial) (fun _=>rfl) (fun _=>rfl) (fun _=>rfl) (tl2▸(QB.cons rfl l3_ok QB.nil)) s2_eq
def E2:Env:=⟨ty,QL cl,JA [(2,l2),(3,l3)],none⟩
structure p1X where
 side:List (Int)
 nr:Int
 c:Int
 l:List (List (Int))
 free_lo:Nat
 free_len:Nat
 last:Int
 k:Int
 cut_lo:Nat
 cut_len:Nat
 i:Int
 mr:Int
 mc:Int
 ma:List (Int)
 wc:Int
 wr:List ((Int)×List (Int))
 free:List (Int)
 cut:List (List (Int))
def p1:Pt p1X where
 own:=[.reg 12 (.sl (.int .u8))]
 t:=⟨[(1,.c (.arr (.int .u8))),(5,.c (.it .i64)),(6,.c (.it .i64)),(7,.c (.arr (.sl (.int .u8)))),(8,.c (.ptr 1 0)),(9,.c (.sl 2 0 1)),(10,.c (.it .i64)),(11,.c (.it .i64)),(12,.c (.sl 3 0 1)),(13,.c (.it .i64))],[.st [.it .u8,.it .u8,.arr (.int .u8)] 1 0,.st [.it .i64,.arr (.pair (.int .i64) (.sl (.int .u64)))] 1 0,.arr (.int .i64) 0,.arr (.sl (.int .u8)) 0]⟩
 to:=fun v=>⟨v.1.1,v.1.2.1,v.1.2.2.1,v.1.2.2.2.1,v.1.2.2.2.2.2.1.1,v.1.2.2.2.2.2.1.2,v.1.2.2.2.2.2.2.1,v.1.2.2.2.2.2.2.2.1,v.1.2.2.2.2.2.2.2.2.1.1,v.1.2.2.2.2.2.2.2.2.1.2,v.1.2.2.2.2.2.2.2.2.2.1,v.2.1.1,v.2.1.2.1,v.2.1.2.2.1,v.2.2.1.1,v.2.2.1.2.1,v.2.2.2.1,v.2.2.2.2.1⟩
 fr:=fun x=>((x.side,(x.nr,(x.c,(x.l,((),((x.free_lo,x.free_len),(x.last,(x.k,((x.cut_lo,x.cut_len),(x.i,())))))))))),((x.mr,(x.mc,(x.ma,()))),((x.wc,(x.wr,())),(x.free,(x.cut,())))))
structure q1X where
 side:List (Int)
 nr:Int
 c:Int
 l:List (List (Int))
 free_lo:Nat
 free_len:Nat
 last:Int
 k:Int
 cut:List (List (Int))
 mr:Int
 mc:Int
 ma:List (Int)
 wc:Int
 wr:List ((Int)×List (Int))
 free:List (Int)
def q1:Pt q1X where
 own:=[]
 t:=⟨[(1,.c (.arr (.int .u8))),(5,.c (.it .i64)),(6,.c (.it .i64)),(7,.c (.arr (.sl (.int .u8)))),(8,.c (.ptr 1 0)),(9,.c (.sl 2 0 1)),(10,.c (.it .i64)),(11,.c (.it .i64)),(12,.c (.arr (.sl (.int .u8))))],[.st [.it .u8,.it .u8,.arr (.int .u8)] 1 0,.st [.it .i64,.arr (.pair (.int .i64) (.sl (.int .u64)))] 1 0,.arr (.int .i64) 0]⟩
 to:=fun v=>⟨v.1.1,v.1.2.1,v.1.2.2.1,v.1.2.2.2.1,v.1.2.2.2.2.2.1.1,v.1.2.2.2.2.2.1.2,v.1.2.2.2.2.2.2.1,v.1.2.2.2.2.2.2.2.1,v.1.2.2.2.2.2.2.2.2.1,v.2.1.1,v.2.1.2.1,v.2.1.2.2.1,v.2.2.1.1,v.2.2.1.2.1,v.2.2.2.1⟩
 fr:=fun x=>((x.side,(x.nr,(x.c,(x.l,((),((x.free_lo,x.free_len),(x.last,(x.k,(x.cut,()))))))))),((x.mr,(x.mc,(x.ma,()))),((x.wc,(x.wr,())),(x.free,()))))
def s1(x:p1X):Option (p1X⊕q1X):=bif decide (x.i<x.nr) then bif inR x.i x.l.length then bif decide (0≤IntKind.i64.wrap (x.k+1))&&decide (IntKind.i64.wrap (x.k+1)≤(↑(List.length (x.l[x.i.toNat]?.getD [])):Int))&&true then bif eqN x.cut_lo 0&&eqN x.cut.length x.cut_len&&QP (x.cut_len+1) 24 then some (Sum.inl ⟨x.side,x.nr,x.c,x.l,x.free_lo,x.free_len,x.last,x.k,0,x.cut_len+1,IntKind.i64.wrap (x.i+1),x.mr,x.mc,x.ma,x.wc,x.wr,x.free,x.cut++[List.take ((IntKind.i64.wrap (x.k+1)).toNat - 0) (List.drop 0 (x.l[x.i.toNat]?.getD []))]⟩) else none else none else none else bif leB (x.cut_lo+x.cut_len) x.cut.length&&true&&true then some (Sum.inr ⟨x.side,x.nr,x.c,x.l,x.free_lo,x.free_len,x.last,x.k,List.take x.cut_len (List.drop x.cut_lo x.cut),x.mr,x.mc,x.ma,x.wc,x.wr,x.free⟩) else none
theorem JZ(x:p1X):exec E2 229 (C5.Q2 1) 2 (p1.R x) (p1.H x) (Qq 0 p1 (.exit 2) q1)=s1 x:=by kernel_rfl
def l1:QS:=Qr 0 p1 (.exit 2) q1 s1
theorem tl1:QI (C5.Q2 1) 2=[]:=by kernel_rfl
theorem Jb  :QF Try.prog 229 none 0 (C5.Q2 1) l1:=QQ mixed (Q8 QC Q5 _) (by trivial) (fun _=>rfl) (fun _=>rfl) (tl1▸QB.nil) JZ
def E1:Env:=⟨ty,QL cl,JA [(1,l1),(2,l2),(3,l3)],none⟩
structure p0X where
 side:List (Int)
 nr:Int
 c:Int
 l:List (List (Int))
 free_lo:Nat
 free_len:Nat
 last:Int
 k:Int
 mr:Int
 mc:Int
 ma:List (Int)
 wc:Int
 wr:List ((Int)×List (Int))
 free:List (Int)
def p0:Pt p0X where
 own:=[.reg 9 (.int .i64)]
 t:=⟨[(1,.c (.arr (.int .u8))),(5,.c (.it .i64)),(6,.c (.it .i64)),(7,.c (.arr (.sl (.int .u8)))),(8,.c (.ptr 1 0)),(9,.c (.sl 2 0 1)),(10,.c (.it .i64)),(11,.c (.it .i64))],[.st [.it .u8,.it .u8,.arr (.int .u8)] 1 0,.st [.it .i64,.arr (.pair (.int .i64) (.sl (.int .u64)))] 1 0,.arr (.int .i64) 0]⟩
 to:=fun v=>⟨v.1.1,v.1.2.1,v.1.2.2.1,v.1.2.2.2.1,v.1.2.2.2.2.2.1.1,v.1.2.2.2.2.2.1.2,v.1.2.2.2.2.2.2.1,v.1.2.2.2.2.2.2.2.1,v.2.1.1,v.2.1.2.1,v.2.1.2.2.1,v.2.2.1.1,v.2.2.1.2.1,v.2.2.2.1⟩
 fr:=fun x=>((x.side,(x.nr,(x.c,(x.l,((),((x.free_lo,x.free_len),(x.last,(x.k,())))))))),((x.mr,(x.mc,(x.ma,()))),((x.wc,(x.wr,())),(x.free,()))))
structure q0X where
 side:List (Int)
 nr:Int
 c:Int
 l:List (List (Int))
 free:List (Int)
 mr:Int
 mc:Int
 ma:List (Int)
 wc:Int
 wr:List ((Int)×List (Int))
def q0:Pt q0X where
 own:=[]
 t:=⟨[(1,.c (.arr (.int .u8))),(5,.c (.it .i64)),(6,.c (.it .i64)),(7,.c (.arr (.sl (.int .u8)))),(8,.c (.ptr 1 0)),(9,.c (.arr (.int .i64)))],[.st [.it .u8,.it .u8,.arr (.int .u8)] 1 0,.st [.it .i64,.arr (.pair (.int .i64) (.sl (.int .u64)))] 1 0]⟩
 to:=fun v=>⟨v.1.1,v.1.2.1,v.1.2.2.1,v.1.2.2.2.1,v.1.2.2.2.2.2.1,v.2.1.1,v.2.1.2.1,v.2.1.2.2.1,v.2.2.1.1,v.2.2.1.2.1⟩
 fr:=fun x=>((x.side,(x.nr,(x.c,(x.l,((),(x.free,())))))),((x.mr,(x.mc,(x.ma,()))),((x.wc,(x.wr,())),())))
structure z0X where
 r:Bool
def z0:Pt z0X where
 own:=[]
 t:=⟨[(4,.c (.bo))],[]⟩
 to:=fun v=>⟨v.1.1⟩
 fr:=fun x=>((x.r,()),())
def s0(x:p0X):Option (p0X⊕(q0X⊕z0X)):=bif decide (x.k<x.c) then Q0 (iter s1 ⟨x.side,x.nr,x.c,x.l,x.free_lo,x.free_len,x.last,x.k,0,0,0,x.mr,x.mc,x.ma,x.wc,x.wr,x.free,[]⟩) fun y=>Q0 (M23.m ⟨y.cut,IntKind.i64.wrap (y.k+1)⟩) fun y_1=>Q0 (M26.m ⟨y_1.1,y_1.2⟩) fun y_2=>bif bif bif y_2.2 !=0 then true else decide (y_2.1<y.last) then true else decide (y_2.1>IntKind.i64.wrap (y.last+1)) then some (Sum.inr (Sum.inr ⟨false⟩)) else bif y_2.1==y.last then bif eqN y.free_lo 0&&eqN y.free.length y.free_len&&QP (y.free_len+1) 8 then some (Sum.inl ⟨y.side,y.nr,y.c,y.l,0,y.free_len+1,y_2.1,IntKind.i64.wrap (y.k+1),y.mr,y.mc,y.ma,y.wc,y.wr,y.free++[y.k]⟩) else none else some (Sum.inl ⟨y.side,y.nr,y.c,y.l,y.free_lo,y.free_len,y_2.1,IntKind.i64.wrap (y.k+1),y.mr,y.mc,y.ma,y.wc,y.wr,y.free⟩) else bif leB (x.free_lo+x.free_len) x.free.length&&true&&true then some (Sum.inr (Sum.inl ⟨x.side,x.nr,x.c,x.l,List.take x.free_len (List.drop x.free_lo x.free),x.mr,x.mc,x.ma,x.wc,x.wr⟩)) else none
theorem QV(x:p0X):exec E1 229 (C5.Q2 0) 1 (p0.R x) (p0.H x) (J3 0 p0 (.exit 0) q0 .ret z0)=s0 x:=by kernel_rfl
def l0:QS:=J4 0 p0 (.exit 0) q0 .ret z0 s0
theorem tl0:QI (C5.Q2 0) 1=[(1,C5.Q2 1)]:=by kernel_rfl
theorem QW  :QF Try.prog 229 none 0 (C5.Q2 0) l0:=Qc mixed (Q8 QC Q5 _) (by trivial) (by trivial) (fun _=>rfl) (fun _=>rfl) (fun _=>rfl) (tl0▸(QB.cons rfl Jb QB.nil)) QV
def E0:Env:=⟨ty,QL cl,JA [(0,l0),(1,l1),(2,l2),(3,l3)],none⟩
def m(x:gX):Option fY:=Q0 (M18.m ⟨[(x.mr,x.mc,x.ma)]⟩) fun y=>bif bif !y then true else decide ((↑x.side.length:Int)>40) then Q0 (M19.m PUnit.unit) fun y=>some y else Q0 (M20.m ⟨x.mr,x.mc,x.ma⟩) fun y=>Q0 (M21.m ⟨x.mr,x.mc,x.ma,y.1,y.2⟩) fun y_1=>Q0 (M23.m ⟨y_1,y.2⟩) fun y_2=>Q0 (iter s0 ⟨x.side,y.1,y.2,y_1,0,0,0,0,x.mr,x.mc,x.ma,y_2.1,y_2.2,[]⟩) fun s=>J6 s (fun y=>Q0 (M25.m ⟨y.wc,y.wr⟩) fun y_3=>Q0 (M21.m ⟨0,0,y.side,1,y.nr⟩) fun y_4=>bif inR 0 (List.length y_4) then Q0 (M24.m ⟨y_4[0]?.getD []⟩) fun y_5=>Q0 (M22.m ⟨y.wc,y.wr,y_5.1,y_5.2⟩) fun y_6=>bif bif bif y_3.2 !=0 then true else (↑y_3.1.length:Int) !=(↑y.free.length:Int) then true else bif y_6.2.2 !=0 then y_6.2.2 !=9 else false then some false else Q0 (iter s2 ⟨y.nr,y.c,y.free,y_3.1,y_4[0]?.getD [],y_6.2.2,0,y.mr,y.mc,y.ma,y.wc,y.wr,y_6.1,y_6.2.1⟩) fun s=>J6 s (fun y=>bif y.g==0 then Q0 (M29.m ⟨y.wc,y.wr,y.xn,y.xw⟩) fun y_7=>Q0 (bif y_7.2.2==0 then M30.m ⟨y_7.1,y_7.2.1,y.b⟩ else some false) fun y=>Q0 (bif bif y_7.2.2==0 then y else false then M19.m PUnit.unit else some false) fun y_8=>some (bif bif y_7.2.2==0 then y else false then y_8 else false) else Q0 (M19.m PUnit.unit) fun y=>some y) fun z=>some z.r else none) fun z=>some z.r
theorem QJ(x:gX):exec E0 229 C5 0 (QN 0 (g.A x)) (g.H x) (finish 0 ty [.tmp 4] f)=m x:=by kernel_rfl
theorem tl:QI C5 0=[(0,C5.Q2 0),(2,C5.Q2 2)]:=by kernel_rfl
theorem known:QM Try.prog 5 g f m:=
 Q9 mixed (Q8 QC Q5 _) s5 rfl rfl tl (QB.cons rfl QW (QB.cons rfl l2_ok QB.nil)) (fun _ _=>⟨rfl,rfl⟩) (fun _ _=>⟨rfl,rfl⟩) QJ
def con:Con:=Qx g f m default
theorem Q1:QO Try.prog 5 con:=QE known (fun _=>rfl) rfl
end M5
end Go.Proofs.Ytddaobhpffpmoaa
