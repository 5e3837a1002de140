/- A part of the proof. -/
import Derived.Test.YtpbplpgfloaaiaaGreatDoorXS2QZb
import Derived.Test.YtpbplpgfloaaiaaGreatDoorXS2QZa
set_option linter.all false
set_option maxRecDepth 100000
set_option maxHeartbeats 1000000
noncomputable section
namespace Go.Proofs.YtpbplpgfloaaiaaGreatDoor
open Go.Abs
open Go.IntKind(i64)
open Sum(inl inr)
open Go.Proofs.Tryz(prog)
namespace M90b
structure gX where(inn state:TI)(Q0:TN)(Q1:TS)(Q4:TM)(Q3:TI)(ln lp QF QG QP value other:Int)
def g:Sg gX:=⟨[cP,.agg [aB,aB]],[.st [aN,aS,aM,aI,.nils,.fn 150,.clo 152 [⟨1,0,0⟩,⟨2,0,0⟩]] 1 0,oP,.st [.clo 128 [⟨3,0,0⟩]] 1 0,oG],λa b=>⟨a.2.1.1,a.2.1.2.1,b.1.1,b.1.2.1,b.1.2.2.1,b.1.2.2.2.1,b.2.1.1,b.2.1.2.1,b.2.2.2.1.1,b.2.2.2.1.2.1,b.2.2.2.1.2.2.1,b.2.2.2.1.2.2.2.1,b.2.2.2.1.2.2.2.2.1⟩,λx=>((),((x.inn,(x.state,())),())),λx=>((x.Q0,(x.Q1,(x.Q4,(x.Q3,((),((),((),()))))))),((x.ln,(x.lp,())),(((),()),((x.QF,(x.QG,(x.QP,(x.value,(x.other,()))))),()))))⟩
abbrev fY:=TI×TI×TN×TS×TM×TI×Nat×Nat×Nat×Int×Int×Int×Int×Int×Int×Int×TI
def f:Ft fY:=⟨some [0,1,2,3,6,4,5,7,8,9,10,11],.agg [aB,aB],[.st [aN,aS,aM,aI,.slc 4 0 1,.fn 150,.clo 152 [⟨1,0,0⟩,⟨2,0,0⟩]] 1 0,oP,.st [.clo 128 [⟨3,0,0⟩]] 1 0,oG,oB],λa b=>(a.1,a.2.1,b.1.1,b.1.2.1,b.1.2.2.1,b.1.2.2.2.1,b.1.2.2.2.2.1.1,b.1.2.2.2.2.1.2.1,b.1.2.2.2.2.1.2.2,b.2.1.1,b.2.1.2.1,b.2.2.2.1.1,b.2.2.2.1.2.1,b.2.2.2.1.2.2.1,b.2.2.2.1.2.2.2.1,b.2.2.2.1.2.2.2.2.1,b.2.2.2.2.1),λy=>(y.1,(y.2.1,())),λy=>((y.2.2.1,(y.2.2.2.1,(y.2.2.2.2.1,(y.2.2.2.2.2.1,((y.2.2.2.2.2.2.1,y.2.2.2.2.2.2.2.1,y.2.2.2.2.2.2.2.2.1),((),((),()))))))),((y.2.2.2.2.2.2.2.2.2.1,(y.2.2.2.2.2.2.2.2.2.2.1,())),(((),()),((y.2.2.2.2.2.2.2.2.2.2.2.1,(y.2.2.2.2.2.2.2.2.2.2.2.2.1,(y.2.2.2.2.2.2.2.2.2.2.2.2.2.1,(y.2.2.2.2.2.2.2.2.2.2.2.2.2.2.1,(y.2.2.2.2.2.2.2.2.2.2.2.2.2.2.2.1,()))))),(y.2.2.2.2.2.2.2.2.2.2.2.2.2.2.2.2,())))))⟩
def cl:List CK:=[ck M36.known,ck M75.known,ck M40.known,⟨129,M129b.con,M129b.con_ok⟩,⟨130,M130b.con,M130b.con_ok⟩,ck M150.known,ck M88.known]
structure p4X where(l:TI)(n i:Int)(Q0:TN)(Q1:TS)(Q4:TM)(Q3:TI)(Q6 Q5 Q9:Nat)(ln lp QF QG QP value other:Int)(inn state xs oa:TI)(Yp XU:Nat)(oxs:TI)
def p4:Pt p4X:=⟨[.cell 7 1 (.int .u8)],⟨[(0,cP),(4,.c (.ptr 5 0)),(16,.c (.ptr 7 0)),(162,cA),(163,cI),(164,cI)],[.st [aN,aS,aM,aI,.slc 6 0 1,.fn 150,.clo 152 [⟨1,0,0⟩,⟨2,0,0⟩]] 1 0,oP,.st [.clo 128 [⟨3,0,0⟩]] 1 0,oG,oF,.st [jk,jk] 1 0,oB,.st [aB,.sl 8 0 1] 1 0,oB]⟩,λ((_,_,_,a,b,c,_),(d,e,f,g,(h,i,j),_),(k,l,_),_,(m,n,o,p,q,_),(r,s,_),_,t,(u,(w,x),_),y,_)=>⟨a,b,c,d,e,f,g,h,i,j,k,l,m,n,o,p,q,r,s,t,u,w,x,y⟩,λx=>(((),((),((),(x.l,(x.n,(x.i,())))))),((x.Q0,(x.Q1,(x.Q4,(x.Q3,((x.Q6,x.Q5,x.Q9),((),((),()))))))),((x.ln,(x.lp,())),(((),()),((x.QF,(x.QG,(x.QP,(x.value,(x.other,()))))),((x.inn,(x.state,())),(((),((),())),(x.xs,((x.oa,((x.Yp,x.XU),())),(x.oxs,()))))))))))⟩
structure q4X where(Q0:TN)(Q1:TS)(Q4:TM)(Q3:TI)(Q6 Q5 Q9:Nat)(ln lp QF QG QP value other:Int)(inn state xs oa ob:TI)
def q4:Pt q4X:=⟨[],⟨[(0,cP),(4,.c (.ptr 5 0)),(16,.c (.ptr 7 0))],[.st [aN,aS,aM,aI,.slc 6 0 1,.fn 150,.clo 152 [⟨1,0,0⟩,⟨2,0,0⟩]] 1 0,oP,.st [.clo 128 [⟨3,0,0⟩]] 1 0,oG,oF,.st [jk,jk] 1 0,oB,oF]⟩,λ(_,(a,b,c,d,(e,f,g),_),(h,i,_),_,(j,k,l,m,n,_),(o,p,_),_,q,(r,s,_),_)=>⟨a,b,c,d,e,f,g,h,i,j,k,l,m,n,o,p,q,r,s⟩,λx=>(((),((),((),()))),((x.Q0,(x.Q1,(x.Q4,(x.Q3,((x.Q6,x.Q5,x.Q9),((),((),()))))))),((x.ln,(x.lp,())),(((),()),((x.QF,(x.QG,(x.QP,(x.value,(x.other,()))))),((x.inn,(x.state,())),(((),((),())),(x.xs,((x.oa,(x.ob,())),())))))))))⟩
def s4(x:p4X):Option (p4X⊕q4X):=bif decide (x.i<x.n) then bif inR x.i x.l.length then bindO (M130b.m ⟨x.l[x.i.toNat]?.getD 0,x.Q0,x.Q1,x.Q4,x.Q3,x.Q6,x.Q5,x.Q9,x.ln,x.lp,x.QF,x.QG,x.QP,x.value,x.other,x.xs⟩) λy=>bif inR 0 y.1.length then bif eqN x.Yp 0&&eqN x.oxs.length x.XU&&J1 (x.XU+1) 1 then some (inl ⟨x.l,x.n,i64.wrap (x.i+1),x.Q0,x.Q1,x.Q4,x.Q3,x.Q6,x.Q5,x.Q9,x.ln,x.lp,x.QF,x.QG,x.QP,x.value,x.other,x.inn,x.state,x.xs,x.oa,0,x.XU+1,x.oxs++[bif y.1[0]?.getD 0==3 then 2 else y.1[0]?.getD 0]⟩) else none else none else none else bif leB (x.Yp+x.XU) x.oxs.length&&true&&true then some (inr ⟨x.Q0,x.Q1,x.Q4,x.Q3,x.Q6,x.Q5,x.Q9,x.ln,x.lp,x.QF,x.QG,x.QP,x.value,x.other,x.inn,x.state,x.xs,x.oa,List.take x.XU (List.drop x.Yp x.oxs)⟩) else none
def l4:QT:=Qa 4 p4 (.exit 8) q4 s4
def l4_ok  :QO prog 189 none 4 (C90.QR 4) l4:=lc cl 5 (λ_=>none) QX.nil
structure p3X where(sts l:TI)(n i:Int)(Q0:TN)(Q1:TS)(Q4:TM)(Q3:TI)(Q6 Q5 Q9:Nat)(ln lp QF QG QP value other:Int)(inn state xs:TI)(Yq XV:Nat)(oxs:TI)
def p3:Pt p3X:=⟨[.cell 7 0 (.int .u8)],⟨[(0,cP),(4,.c (.ptr 5 0)),(5,cA),(16,.c (.ptr 7 0)),(143,cA),(144,cI),(145,cI)],[.st [aN,aS,aM,aI,.slc 6 0 1,.fn 150,.clo 152 [⟨1,0,0⟩,⟨2,0,0⟩]] 1 0,oP,.st [.clo 128 [⟨3,0,0⟩]] 1 0,oG,oF,.st [jk,jk] 1 0,oB,.st [.sl 8 0 1,.nils] 1 0,oB]⟩,λ((_,_,a,_,b,c,d,_),(e,f,g,h,(i,j,k),_),(l,m,_),_,(n,o,p,q,r,_),(s,t,_),_,u,((w,x),_),y,_)=>⟨a,b,c,d,e,f,g,h,i,j,k,l,m,n,o,p,q,r,s,t,u,w,x,y⟩,λx=>(((),((),(x.sts,((),(x.l,(x.n,(x.i,()))))))),((x.Q0,(x.Q1,(x.Q4,(x.Q3,((x.Q6,x.Q5,x.Q9),((),((),()))))))),((x.ln,(x.lp,())),(((),()),((x.QF,(x.QG,(x.QP,(x.value,(x.other,()))))),((x.inn,(x.state,())),(((),((),())),(x.xs,(((x.Yq,x.XV),((),())),(x.oxs,()))))))))))⟩
structure q3X where(sts:TI)(Q0:TN)(Q1:TS)(Q4:TM)(Q3:TI)(Q6 Q5 Q9:Nat)(ln lp QF QG QP value other:Int)(inn state xs oa:TI)
def q3:Pt q3X:=⟨[],⟨[(0,cP),(4,.c (.ptr 5 0)),(5,cA),(16,.c (.ptr 7 0))],[.st [aN,aS,aM,aI,.slc 6 0 1,.fn 150,.clo 152 [⟨1,0,0⟩,⟨2,0,0⟩]] 1 0,oP,.st [.clo 128 [⟨3,0,0⟩]] 1 0,oG,oF,.st [jk,jk] 1 0,oB,.st [aB,.nils] 1 0]⟩,λ((_,_,a,_),(b,c,d,e,(f,g,h),_),(i,j,_),_,(k,l,m,n,o,_),(p,q,_),_,r,(s,_),_)=>⟨a,b,c,d,e,f,g,h,i,j,k,l,m,n,o,p,q,r,s⟩,λx=>(((),((),(x.sts,((),())))),((x.Q0,(x.Q1,(x.Q4,(x.Q3,((x.Q6,x.Q5,x.Q9),((),((),()))))))),((x.ln,(x.lp,())),(((),()),((x.QF,(x.QG,(x.QP,(x.value,(x.other,()))))),((x.inn,(x.state,())),(((),((),())),(x.xs,((x.oa,((),())),())))))))))⟩
def s3(x:p3X):Option (p3X⊕q3X):=bif decide (x.i<x.n) then bif inR x.i x.l.length then bif inR (x.l[x.i.toNat]?.getD 0) x.Q5 then bif decide (x.Q6+Int.toNat (x.l[x.i.toNat]?.getD 0)<x.xs.length) then bif eqN x.Yq 0&&eqN x.oxs.length x.XV&&J1 (x.XV+1) 1 then some (inl ⟨x.sts,x.l,x.n,i64.wrap (x.i+1),x.Q0,x.Q1,x.Q4,x.Q3,x.Q6,x.Q5,x.Q9,x.ln,x.lp,x.QF,x.QG,x.QP,x.value,x.other,x.inn,x.state,x.xs,0,x.XV+1,x.oxs++[x.xs[x.Q6+Int.toNat (x.l[x.i.toNat]?.getD 0)]?.getD 0]⟩) else none else none else none else none else bif leB (x.Yq+x.XV) x.oxs.length&&true&&true then some (inr ⟨x.sts,x.Q0,x.Q1,x.Q4,x.Q3,x.Q6,x.Q5,x.Q9,x.ln,x.lp,x.QF,x.QG,x.QP,x.value,x.other,x.inn,x.state,x.xs,List.take x.XV (List.drop x.Yq x.oxs)⟩) else none
def l3:QT:=Qa 4 p3 (.exit 6) q3 s3
def l3_ok  :QO prog 189 none 4 (C90.QR 3) l3:=lc cl 4 (J2 [(4,l4)]) QX.nil
structure p2X where(sts l:TI)(n i:Int)(Q0:TN)(Q1:TS)(Q4:TM)(Q3:TI)(Q6 Q5 Q9:Nat)(ln lp QF QG QP value other:Int)(inn state xs:TI)
def p2:Pt p2X:=⟨[],⟨[(0,cP),(3,.c (.ptr 4 0)),(4,.c (.ptr 5 0)),(5,cA),(12,.c (.clo 2000129 [⟨0,0,0⟩])),(89,cA),(90,cI),(91,cI)],[.st [aN,aS,aM,aI,.slc 6 0 1,.fn 150,.clo 152 [⟨1,0,0⟩,⟨2,0,0⟩]] 1 0,oP,.st [.clo 128 [⟨3,0,0⟩]] 1 0,oG,oF,.st [jk,jk] 1 0,oB]⟩,λ((_,_,_,a,_,b,c,d,_),(e,f,g,h,(i,j,k),_),(l,m,_),_,(n,o,p,q,r,_),(s,t,_),_,u,_)=>⟨a,b,c,d,e,f,g,h,i,j,k,l,m,n,o,p,q,r,s,t,u⟩,λx=>(((),((),((),(x.sts,((),(x.l,(x.n,(x.i,())))))))),((x.Q0,(x.Q1,(x.Q4,(x.Q3,((x.Q6,x.Q5,x.Q9),((),((),()))))))),((x.ln,(x.lp,())),(((),()),((x.QF,(x.QG,(x.QP,(x.value,(x.other,()))))),((x.inn,(x.state,())),(((),((),())),(x.xs,()))))))))⟩
structure q2X where(sts:TI)(Q0:TN)(Q1:TS)(Q4:TM)(Q3:TI)(Q6 Q5 Q9:Nat)(ln lp QF QG QP value other:Int)(inn state xs:TI)
def q2:Pt q2X:=⟨[],⟨[(0,cP),(4,.c (.ptr 5 0)),(5,cA)],[.st [aN,aS,aM,aI,.slc 6 0 1,.fn 150,.clo 152 [⟨1,0,0⟩,⟨2,0,0⟩]] 1 0,oP,.st [.clo 128 [⟨3,0,0⟩]] 1 0,oG,oF,.st [jk,jk] 1 0,oB]⟩,λ((_,_,a,_),(b,c,d,e,(f,g,h),_),(i,j,_),_,(k,l,m,n,o,_),(p,q,_),_,r,_)=>⟨a,b,c,d,e,f,g,h,i,j,k,l,m,n,o,p,q,r⟩,λx=>(((),((),(x.sts,()))),((x.Q0,(x.Q1,(x.Q4,(x.Q3,((x.Q6,x.Q5,x.Q9),((),((),()))))))),((x.ln,(x.lp,())),(((),()),((x.QF,(x.QG,(x.QP,(x.value,(x.other,()))))),((x.inn,(x.state,())),(((),((),())),(x.xs,()))))))))⟩
def s2(x:p2X):Option (p2X⊕q2X):=bif decide (x.i<x.n) then bif inR x.i x.l.length then bif inR (x.l[x.i.toNat]?.getD 0) x.Q0.length then bif bif (x.Q0[Int.toNat (x.l[x.i.toNat]?.getD 0)]?.getD (0,[],0,0)).1 !=0 then (x.Q0[Int.toNat (x.l[x.i.toNat]?.getD 0)]?.getD (0,[],0,0)).1 !=14 else false then bindO (M129b.m ⟨x.l[x.i.toNat]?.getD 0,x.Q0,x.Q1,x.Q4,x.Q3,x.Q6,x.Q5,x.Q9,x.ln,x.lp,x.QF,x.QG,x.QP,x.value,x.other,x.xs⟩) λy=>bif inR (x.l[x.i.toNat]?.getD 0) x.Q5 then bif decide (x.Q6+Int.toNat (x.l[x.i.toNat]?.getD 0)<x.xs.length) then bif inR (x.l[x.i.toNat]?.getD 0) x.Q5 then bif decide (x.Q6+Int.toNat (x.l[x.i.toNat]?.getD 0)<(x.xs.set (x.Q6+Int.toNat (x.l[x.i.toNat]?.getD 0)) y.1).length) then bindO (M150.m ⟨x.l[x.i.toNat]?.getD 0,(x.xs.set (x.Q6+Int.toNat (x.l[x.i.toNat]?.getD 0)) y.1)[x.Q6+Int.toNat (x.l[x.i.toNat]?.getD 0)]?.getD 0⟩) λy_1=>bif inR (x.l[x.i.toNat]?.getD 0) x.Q5 then bif decide (x.Q6+Int.toNat (x.l[x.i.toNat]?.getD 0)<(x.xs.set (x.Q6+Int.toNat (x.l[x.i.toNat]?.getD 0)) y.1).length) then some (inl ⟨x.sts,x.l,x.n,i64.wrap (x.i+1),x.Q0,x.Q1,x.Q4,x.Q3,x.Q6,x.Q5,x.Q9,x.ln,x.lp,x.QF,x.QG,x.QP,x.value,x.other,x.inn,x.state,(x.xs.set (x.Q6+Int.toNat (x.l[x.i.toNat]?.getD 0)) y.1).set (x.Q6+Int.toNat (x.l[x.i.toNat]?.getD 0)) y_1⟩) else none else none else none else none else none else none else bif inR (x.l[x.i.toNat]?.getD 0) x.Q5 then bif decide (x.Q6+Int.toNat (x.l[x.i.toNat]?.getD 0)<x.xs.length) then bindO (M150.m ⟨x.l[x.i.toNat]?.getD 0,x.xs[x.Q6+Int.toNat (x.l[x.i.toNat]?.getD 0)]?.getD 0⟩) λy=>bif inR (x.l[x.i.toNat]?.getD 0) x.Q5 then bif decide (x.Q6+Int.toNat (x.l[x.i.toNat]?.getD 0)<x.xs.length) then some (inl ⟨x.sts,x.l,x.n,i64.wrap (x.i+1),x.Q0,x.Q1,x.Q4,x.Q3,x.Q6,x.Q5,x.Q9,x.ln,x.lp,x.QF,x.QG,x.QP,x.value,x.other,x.inn,x.state,x.xs.set (x.Q6+Int.toNat (x.l[x.i.toNat]?.getD 0)) y⟩) else none else none else none else none else none else none else some (inr ⟨x.sts,x.Q0,x.Q1,x.Q4,x.Q3,x.Q6,x.Q5,x.Q9,x.ln,x.lp,x.QF,x.QG,x.QP,x.value,x.other,x.inn,x.state,x.xs⟩)
def l2:QT:=Qa 4 p2 (.exit 4) q2 s2
def l2_ok  :QO prog 189 none 4 (C90.QR 2) l2:=lc cl 3 (J2 [(3,l3),(4,l4)]) QX.nil
structure p1X where(sts l:TI)(n i:Int)(Q0:TN)(Q1:TS)(Q4:TM)(Q3:TI)(Q6 Q5 Q9:Nat)(ln lp QF QG QP value other:Int)(inn state xs:TI)
def p1:Pt p1X:=⟨[],⟨[(0,cP),(3,.c (.ptr 4 0)),(4,.c (.ptr 5 0)),(5,cA),(60,cA),(61,cI),(62,cI)],[.st [aN,aS,aM,aI,.slc 6 0 1,.fn 150,.clo 152 [⟨1,0,0⟩,⟨2,0,0⟩]] 1 0,oP,.st [.clo 128 [⟨3,0,0⟩]] 1 0,oG,oF,.st [jk,jk] 1 0,oB]⟩,λ((_,_,_,a,b,c,d,_),(e,f,g,h,(i,j,k),_),(l,m,_),_,(n,o,p,q,r,_),(s,t,_),_,u,_)=>⟨a,b,c,d,e,f,g,h,i,j,k,l,m,n,o,p,q,r,s,t,u⟩,λx=>(((),((),((),(x.sts,(x.l,(x.n,(x.i,()))))))),((x.Q0,(x.Q1,(x.Q4,(x.Q3,((x.Q6,x.Q5,x.Q9),((),((),()))))))),((x.ln,(x.lp,())),(((),()),((x.QF,(x.QG,(x.QP,(x.value,(x.other,()))))),((x.inn,(x.state,())),(((),((),())),(x.xs,()))))))))⟩
structure q1X where(sts:TI)(Q0:TN)(Q1:TS)(Q4:TM)(Q3:TI)(Q6 Q5 Q9:Nat)(ln lp QF QG QP value other:Int)(inn state xs:TI)
def q1:Pt q1X:=⟨[],⟨[(0,cP),(3,.c (.ptr 4 0)),(4,.c (.ptr 5 0)),(5,cA)],[.st [aN,aS,aM,aI,.slc 6 0 1,.fn 150,.clo 152 [⟨1,0,0⟩,⟨2,0,0⟩]] 1 0,oP,.st [.clo 128 [⟨3,0,0⟩]] 1 0,oG,oF,.st [jk,jk] 1 0,oB]⟩,λ((_,_,_,a,_),(b,c,d,e,(f,g,h),_),(i,j,_),_,(k,l,m,n,o,_),(p,q,_),_,r,_)=>⟨a,b,c,d,e,f,g,h,i,j,k,l,m,n,o,p,q,r⟩,λx=>(((),((),((),(x.sts,())))),((x.Q0,(x.Q1,(x.Q4,(x.Q3,((x.Q6,x.Q5,x.Q9),((),((),()))))))),((x.ln,(x.lp,())),(((),()),((x.QF,(x.QG,(x.QP,(x.value,(x.other,()))))),((x.inn,(x.state,())),(((),((),())),(x.xs,()))))))))⟩
def s1(x:p1X):Option (p1X⊕q1X):=bif decide (x.i<x.n) then bif inR x.i x.l.length then bif inR x.i x.state.length then bif inR (x.l[x.i.toNat]?.getD 0) x.Q5 then bif decide (x.Q6+Int.toNat (x.l[x.i.toNat]?.getD 0)<x.xs.length) then some (inl ⟨x.sts,x.l,x.n,i64.wrap (x.i+1),x.Q0,x.Q1,x.Q4,x.Q3,x.Q6,x.Q5,x.Q9,x.ln,x.lp,x.QF,x.QG,x.QP,x.value,x.other,x.inn,x.state,x.xs.set (x.Q6+Int.toNat (x.l[x.i.toNat]?.getD 0)) (x.state[x.i.toNat]?.getD 0)⟩) else none else none else none else none else some (inr ⟨x.sts,x.Q0,x.Q1,x.Q4,x.Q3,x.Q6,x.Q5,x.Q9,x.ln,x.lp,x.QF,x.QG,x.QP,x.value,x.other,x.inn,x.state,x.xs⟩)
def l1:QT:=Qa 4 p1 (.exit 2) q1 s1
def l1_ok  :QO prog 189 none 4 (C90.QR 1) l1:=lc cl 2 (J2 [(2,l2),(3,l3),(4,l4)]) QX.nil
structure p0X where(sts l:TI)(n i:Int)(Q0:TN)(Q1:TS)(Q4:TM)(Q3:TI)(Q6 Q5 Q9:Nat)(ln lp QF QG QP value other:Int)(inn state xs:TI)
def p0:Pt p0X:=⟨[],⟨[(0,cP),(3,.c (.ptr 4 0)),(4,.c (.ptr 5 0)),(5,cA),(41,cA),(42,cI),(43,cI)],[.st [aN,aS,aM,aI,.slc 6 0 1,.fn 150,.clo 152 [⟨1,0,0⟩,⟨2,0,0⟩]] 1 0,oP,.st [.clo 128 [⟨3,0,0⟩]] 1 0,oG,oF,.st [jk,jk] 1 0,oB]⟩,λ((_,_,_,a,b,c,d,_),(e,f,g,h,(i,j,k),_),(l,m,_),_,(n,o,p,q,r,_),(s,t,_),_,u,_)=>⟨a,b,c,d,e,f,g,h,i,j,k,l,m,n,o,p,q,r,s,t,u⟩,λx=>(((),((),((),(x.sts,(x.l,(x.n,(x.i,()))))))),((x.Q0,(x.Q1,(x.Q4,(x.Q3,((x.Q6,x.Q5,x.Q9),((),((),()))))))),((x.ln,(x.lp,())),(((),()),((x.QF,(x.QG,(x.QP,(x.value,(x.other,()))))),((x.inn,(x.state,())),(((),((),())),(x.xs,()))))))))⟩
structure q0X where(sts:TI)(Q0:TN)(Q1:TS)(Q4:TM)(Q3:TI)(Q6 Q5 Q9:Nat)(ln lp QF QG QP value other:Int)(inn state xs:TI)
def q0:Pt q0X:=⟨[],⟨[(0,cP),(3,.c (.ptr 4 0)),(4,.c (.ptr 5 0)),(5,cA)],[.st [aN,aS,aM,aI,.slc 6 0 1,.fn 150,.clo 152 [⟨1,0,0⟩,⟨2,0,0⟩]] 1 0,oP,.st [.clo 128 [⟨3,0,0⟩]] 1 0,oG,oF,.st [jk,jk] 1 0,oB]⟩,λ((_,_,_,a,_),(b,c,d,e,(f,g,h),_),(i,j,_),_,(k,l,m,n,o,_),(p,q,_),_,r,_)=>⟨a,b,c,d,e,f,g,h,i,j,k,l,m,n,o,p,q,r⟩,λx=>(((),((),((),(x.sts,())))),((x.Q0,(x.Q1,(x.Q4,(x.Q3,((x.Q6,x.Q5,x.Q9),((),((),()))))))),((x.ln,(x.lp,())),(((),()),((x.QF,(x.QG,(x.QP,(x.value,(x.other,()))))),((x.inn,(x.state,())),(((),((),())),(x.xs,()))))))))⟩
def s0(x:p0X):Option (p0X⊕q0X):=bif decide (x.i<x.n) then bif inR x.i x.l.length then bif inR x.i x.inn.length then bif inR (x.l[x.i.toNat]?.getD 0) x.Q5 then bif decide (x.Q6+Int.toNat (x.l[x.i.toNat]?.getD 0)<x.xs.length) then some (inl ⟨x.sts,x.l,x.n,i64.wrap (x.i+1),x.Q0,x.Q1,x.Q4,x.Q3,x.Q6,x.Q5,x.Q9,x.ln,x.lp,x.QF,x.QG,x.QP,x.value,x.other,x.inn,x.state,x.xs.set (x.Q6+Int.toNat (x.l[x.i.toNat]?.getD 0)) (x.inn[x.i.toNat]?.getD 0)⟩) else none else none else none else none else some (inr ⟨x.sts,x.Q0,x.Q1,x.Q4,x.Q3,x.Q6,x.Q5,x.Q9,x.ln,x.lp,x.QF,x.QG,x.QP,x.value,x.other,x.inn,x.state,x.xs⟩)
def l0:QT:=Qa 4 p0 (.exit 0) q0 s0
def l0_ok  :QO prog 189 none 4 (C90.QR 0) l0:=lc cl 1 (J2 [(1,l1),(2,l2),(3,l3),(4,l4)]) QX.nil
def m(x:gX):Option fY:=bif decide (0<=(x.Q0.length:Int))&&decide ((x.Q0.length:Int)<=(x.Q0.length:Int))&&decide ((x.Q0.length:Int)*(↑1:Int)<=281474976710656)&&decide ((x.Q0.length:Int)<=9223372036854775807) then bindO (M36.m ⟨x.Q0,x.Q1,x.Q4,x.Q3⟩) λy=>bindO (M75.m ⟨x.Q0,x.Q1,x.Q4,x.Q3⟩) λy_1=>bindO (iter s0 ⟨y,y_1,(↑(List.length y_1):Int),0,x.Q0,x.Q1,x.Q4,x.Q3,0,(x.Q0.length:Int).toNat,(x.Q0.length:Int).toNat,x.ln,x.lp,x.QF,x.QG,x.QP,x.value,x.other,x.inn,x.state,List.replicate (x.Q0.length:Int).toNat (0:Int)⟩) λy=>bindO (iter s1 ⟨y.sts,y.sts,(y.sts.length:Int),0,y.Q0,y.Q1,y.Q4,y.Q3,y.Q6,y.Q5,y.Q9,y.ln,y.lp,y.QF,y.QG,y.QP,y.value,y.other,y.inn,y.state,y.xs⟩) λy=>bindO (M40.m ⟨y.Q0,y.Q1,y.Q4,y.Q3⟩) λy_2=>bindO (iter s2 ⟨y.sts,y_2.1,(y_2.1.length:Int),0,y.Q0,y.Q1,y.Q4,y.Q3,y.Q6,y.Q5,y.Q9,y.ln,y.lp,y.QF,y.QG,y.QP,y.value,y.other,y.inn,y.state,y.xs⟩) λy=>bindO (iter s3 ⟨y.sts,y.Q3,(y.Q3.length:Int),0,y.Q0,y.Q1,y.Q4,y.Q3,y.Q6,y.Q5,y.Q9,y.ln,y.lp,y.QF,y.QG,y.QP,y.value,y.other,y.inn,y.state,y.xs,0,0,[]⟩) λy=>bindO (iter s4 ⟨y.sts,(y.sts.length:Int),0,y.Q0,y.Q1,y.Q4,y.Q3,y.Q6,y.Q5,y.Q9,y.ln,y.lp,y.QF,y.QG,y.QP,y.value,y.other,y.inn,y.state,y.xs,y.oa,0,0,[]⟩) λy=>bindO (M88.m ⟨y.oa⟩) λy_3=>bindO (M88.m ⟨y.ob⟩) λy_4=>some (y_3,y_4,y.Q0,y.Q1,y.Q4,y.Q3,y.Q6,y.Q5,y.Q9,y.ln,y.lp,y.QF,y.QG,y.QP,y.value,y.other,y.xs) else none
def known:QQ prog 90 g f m:=
 kc cl s90 (J2 [(0,l0),(1,l1),(2,l2),(3,l3),(4,l4)]) (ac 0 l0_ok (ac 1 l1_ok (ac 2 l2_ok (ac 3 l3_ok (ac 4 l4_ok QX.nil)))))
def con:Con:=Y2 g [.arg 0 0,.cell 0 106,.cell 0 206,.cell 2 0] f m default
def con_ok:J4 prog 90 con:=JY known
end M90b
namespace Co
def rds_at{F:Flt}{N:NodeL}{QH:List Int}{i:Int}{k:Nat}(h:k<(rds F N QH i).length)(hk:k<(pn N i.toNat).length):(rds F N QH i)[k]=F.rd i (k:Int) (ky QH (pn N i.toNat)[k]):=List.getElem_mapIdx
def flta(ln _lp val:Int):Flt:=⟨λ_ _ v=>v,λi v=>if i=ln then val else v⟩
def fltb(ln lp val:Int):Flt:=⟨λi k v=>if i=ln/\k=lp then val else v,λ_ v=>v⟩
def flta_ok{ln lp val:Int}(h:V val):(flta ln lp val).Ok:=⟨λ_ _ _ h=>h,λi v hv=>by
 show V (if i=ln then val else v);split
 ·exact h
 ·exact hv⟩
def fltb_ok{ln lp val:Int}(h:V val):(fltb ln lp val).Ok:=⟨λi k v hv=>by
 show V (if i=ln/\k=lp then val else v);split
 ·exact h
 ·exact hv,λ_ _ h=>h⟩
section
variable {N:NodeL}{A:List (List UInt8)}{C:List Int}{ln lp md l1 l2 val ot:Int}
def mrda(h:Ck N A C){QH:List Int}(hl:QH.length=N.length){i:Int}(hi:In N.length i):
  M130a.m ⟨i,N,A,[],C,0,N.length,N.length,ln,lp,md,l1,l2,val,ot,QH⟩=some (rds (flta ln lp val) N QH i,N,A,[],C,0,N.length,N.length,ln,lp,md,l1,l2,val,ot,QH):=by
 have hN:=h.few;have hp:=h.pins hi;have e5:(N[i.toNat]?.getD (0,[],0,0)).2.1=pn N i.toNat:=rfl;have key:=iter_count (step:=M130a.s0) (λk=>⟨i,0,k,pn N i.toNat,((pn N i.toNat).length:Int),(k:Int),N,A,[],C,0,N.length,N.length,ln,lp,md,l1,l2,val,ot,QH,(rds (flta ln lp val) N QH i).take k⟩) (y:=⟨0,(pn N i.toNat).length,N,A,[],C,0,N.length,N.length,ln,lp,md,l1,l2,val,ot,QH,rds (flta ln lp val) N QH i⟩) (pn N i.toNat).length (λk hk=>by
  have c1:=ilt (a:=(k:Int)) (b:=((pn N i.toNat).length:Int)) (by omega);have ha:=hp.2 _ (A9 hk);have hlt:(pn N i.toNat)[k].toNat<QH.length:=(by obtain⟨q1,q2⟩:=ha;omega);have hr:k<(rds (flta ln lp val) N QH i).length:=(by rw[rds_len];exact hk);have hrk:(rds (flta ln lp val) N QH i).take (k+1)=(rds (flta ln lp val) N QH i).take k++[(flta ln lp val).rd i (k:Int) (QH[(pn N i.toNat)[k].toNat]?.getD 0)]:=(by rw[take_succ' hr];congr 2;rw[rds_at hr hk];rfl);unfold M130a.s0;simp only[c1,inR_nat hk,A6,getD_at hk,inR_int ha,AF,dlt hlt,eqN_of rfl,eqN_of (show((rds (flta ln lp val) N QH i).take k).length=k by rw[B6];omega),room (n:=k+1) (b:=1) (by omega) (by omega),AH,suc (i:=k) (by omega),hrk];rfl) (by
  have c1:=inlt (a:=((pn N i.toNat).length:Int)) (b:=((pn N i.toNat).length:Int)) (by omega);have:(rds (flta ln lp val) N QH i).take (pn N i.toNat).length=rds (flta ln lp val) N QH i:=AN (by rw[rds_len];exact A5 _);unfold M130a.s0;simp only[c1,A7,this])
 rw[CN]at key;have key':iter M130a.s0 { n:=i,QC:=0,Q8:=0,l:=pn N i.toNat,m:=((pn N i.toNat).length:Int),i:=0,Q0:=N,Q1:=A,Q4:=[],Q3:=C,Q6:=0,Q5:=N.length,Q9:=N.length,ln:=ln,lp:=lp,QF:=md,QG:=l1,QP:=l2,value:=val,other:=ot,xs:=QH,out:=[] }=_:=key;have hrl:(rds (flta ln lp val) N QH i).length=(pn N i.toNat).length:=rds_len;unfold M130a.m;simp only[inR_int hi,A6,e5,key',bindO,AF,hrl,leB_of (A5 (pn N i.toNat).length),AH,AW];rw[AN (by omega)]
def meva(h:Ck N A C)(hF:V val){QH:List Int}(hl:QH.length=N.length)(hv:AllV QH){i:Int}(hi:In N.length i):
  M129a.m ⟨i,N,A,[],C,0,N.length,N.length,ln,lp,md,l1,l2,val,ot,QH⟩=some (ev (kd N i) (rds (flta ln lp val) N QH i),N,A,[],C,0,N.length,N.length,ln,lp,md,l1,l2,val,ot,QH):=by
 have hk:=h.kind hi;have hp:=h.pins hi;have e6:(N[i.toNat]?.getD (0,[],0,0)).1=kd N i:=rfl;have hev:=(ev_ok (k:=kd N i) (l:=rds (flta ln lp val) N QH i) hk.1 (by omega) (by rw[rds_len];have:=hp.1;omega) (rds_V (flta_ok hF) hv)).1;unfold M129a.m;simp only[inR_int hi,A6,mrda h hl hi,bindO,e6,hev]
def m90a_2(h:Ck N A C)(hF:V val){o:List Int}(ho:Ord N o){b inn st sts:List Int}(hb:b.length=N.length)(hv:AllV b):
  iter M90a.s2 ⟨sts,o,(o.length:Int),0,N,A,[],C,0,N.length,N.length,ln,lp,md,l1,l2,val,ot,inn,st,b⟩=some ⟨sts,N,A,[],C,0,N.length,N.length,ln,lp,md,l1,l2,val,ot,inn,st,sim (flta ln lp val) N o b⟩:=by
 have hN:=h.few;have hlo:=ho.len;have key:=iter_count (step:=M90a.s2) (λi=>⟨sts,o,(o.length:Int),(i:Int),N,A,[],C,0,N.length,N.length,ln,lp,md,l1,l2,val,ot,inn,st,sim (flta ln lp val) N (o.take i) b⟩) (y:=⟨sts,N,A,[],C,0,N.length,N.length,ln,lp,md,l1,l2,val,ot,inn,st,sim (flta ln lp val) N o b⟩) o.length (λi hlt=>by
  have c1:=ilt (a:=(i:Int)) (b:=(o.length:Int)) (by omega);have hr:=ho.rng hlt;have hk:=h.kind hr;have hs:=sim_snoc (N:=N) (F:=flta ln lp val) (b:=b) hlt;have hsl:(sim (flta ln lp val) N (o.take i) b).length=N.length:=(by rw[sim_len,hb]);have hsv:AllV (sim (flta ln lp val) N (o.take i) b):=sim_V h (flta_ok hF) (λa ha=>by
   obtain⟨k,hk,e⟩:=BB (Ci ha);rw[<-e];exact ho.rng hk) hv
  have e6:(N[o[i].toNat]?.getD (0,[],0,0)).1=kd N o[i]:=rfl;have hc:(bif kd N o[i] !=0 then kd N o[i] !=14 else false)=cm N o[i].toNat:=by
   show _=isC (kd N o[i]);unfold isC;by_cases h0:kd N o[i]=0
   ·rw[h0];rfl
   ·by_cases h14:kd N o[i]=14
    ·rw[h14];rfl
    ·have g1:(kd N o[i] !=0)=true:=(by simpa using h0);have g2:(kd N o[i] !=14)=true:=(by simpa using h14);have g3:decide (kd N o[i]>=1)=true:=AB (by omega);have g4:decide (kd N o[i]<=13)=true:=AB (by omega);rw[g1,g2,g3,g4]
  have hlt2:o[i].toNat<(sim (flta ln lp val) N (o.take i) b).length:=(by rw[hsl];obtain⟨q1,q2⟩:=hr;omega);unfold M90a.s2;simp only[c1,inR_nat hlt,A6,getD_at hlt,inR_int hr,e6,hc,suc (i:=i) (by omega)];have hst:∀QH:List Int,nxt (flta ln lp val) N (sim (flta ln lp val) N (o.take i) b) o[i]=QH->QH.set o[i].toNat ((flta ln lp val).nt o[i] (QH[o[i].toNat]?.getD 0))=sim (flta ln lp val) N (o.take (i+1)) b:=λQH e=>by rw[hs];unfold stp;rw[e];rfl
  cases hcm:cm N o[i].toNat with
  |true=>
   have hn:nxt (flta ln lp val) N (sim (flta ln lp val) N (o.take i) b) o[i]=(sim (flta ln lp val) N (o.take i) b).set o[i].toNat (ev (kd N o[i]) (rds (flta ln lp val) N (sim (flta ln lp val) N (o.take i) b) o[i])):=(by unfold nxt;rw[AC hcm]);have hst:=hst _ hn;have hlt3:o[i].toNat<((sim (flta ln lp val) N (o.take i) b).set o[i].toNat (ev (kd N o[i]) (rds (flta ln lp val) N (sim (flta ln lp val) N (o.take i) b) o[i]))).length:=(by rw[Ap];exact hlt2);simp only[A6,meva h hF hsl hsv hr,bindO,AF,dlt hlt2,dlt hlt3];rw[<-hst];by_cases e:o[i]=ln
   ·have g:(o[i]==ln)=true:=(by simpa using e);have g2:∀v,(flta ln lp val).nt o[i] v=val:=λv=>(by show(if _ then _ else _)=_;rw[AC e]);unfold M151.m;simp only[g,A6,bindO,M128.m,g2]
   ·have g:(o[i]==ln)=false:=Ag.2 e;have g2:∀v,(flta ln lp val).nt o[i] v=v:=λv=>(by show(if _ then _ else _)=_;rw[AK e]);unfold M151.m;simp only[g,A7,bindO,g2]
  |false=>
   have hn:nxt (flta ln lp val) N (sim (flta ln lp val) N (o.take i) b) o[i]=sim (flta ln lp val) N (o.take i) b:=(by unfold nxt;rw[AK (by rw[hcm];simp)]);have hst:=hst _ hn;simp only[A7,AF,dlt hlt2,A6];rw[<-hst];by_cases e:o[i]=ln
   ·have g:(o[i]==ln)=true:=(by simpa using e);have g2:∀v,(flta ln lp val).nt o[i] v=val:=λv=>(by show(if _ then _ else _)=_;rw[AC e]);unfold M151.m;simp only[g,A6,bindO,M128.m,g2]
   ·have g:(o[i]==ln)=false:=Ag.2 e;have g2:∀v,(flta ln lp val).nt o[i] v=v:=λv=>(by show(if _ then _ else _)=_;rw[AK e]);unfold M151.m;simp only[g,A7,bindO,g2]) (by
  have c1:=inlt (a:=(o.length:Int)) (b:=(o.length:Int)) (by omega);unfold M90a.s2;simp only[c1,A7,Aa])
 rw[CN]at key;exact key
def m90a(h:Ck N A C)(hF:V val){o:List Int}(ho:Ord N o)(h40:M40.m ⟨N,A,[],C⟩=some (o,0)){inn st:List Int}(hp:Pat N inn st):
  M90a.m ⟨inn,st,N,A,[],C,ln,lp,md,l1,l2,val,ot⟩=some (outsV C (sim (flta ln lp val) N o (base N inn st)),nexts (flta ln lp val) N (sim (flta ln lp val) N o (base N inn st)),N,A,[],C,0,N.length,N.length,ln,lp,md,l1,l2,val,ot,sim (flta ln lp val) N o (base N inn st)):=by
 have hN:=h.few;have hC:=h.fewC;have lK:(ofK N 14).length<=N.length:=ofN_len;have lI:(ofK N 0).length<=N.length:=ofN_len;have hbV:=base_V (N:=N) hp.vi hp.vs;have hbl:=base_len (N:=N) (inn:=inn) (st:=st);have k0:=iter_count (step:=M90a.s0) (λi=>⟨ofK N 14,ofK N 0,((ofK N 0).length:Int),(i:Int),N,A,[],C,0,N.length,N.length,ln,lp,md,l1,l2,val,ot,inn,st,puts (ofK N 0) inn i (List.replicate N.length 0)⟩) (y:=⟨ofK N 14,N,A,[],C,0,N.length,N.length,ln,lp,md,l1,l2,val,ot,inn,st,puts (ofK N 0) inn (ofK N 0).length (List.replicate N.length 0)⟩) (ofK N 0).length (λi hi=>by
  have c1:=ilt (a:=(i:Int)) (b:=((ofK N 0).length:Int)) (by omega);have hr:=(ofK_at hi).1;have hii:i<inn.length:=(by rw[hp.li];exact hi);have hlt:(ofK N 0)[i].toNat<(puts (ofK N 0) inn i (List.replicate N.length 0)).length:=(by rw[puts_len,Bk];obtain⟨q1,q2⟩:=hr;omega);unfold M90a.s0;simp only[c1,inR_nat hi,inR_nat hii,A6,getD_at hi,getD_at hii,inR_int hr,AF,dlt hlt,suc (i:=i) (by omega),puts_succ hi hii]) (by
  have c1:=inlt (a:=((ofK N 0).length:Int)) (b:=((ofK N 0).length:Int)) (by omega);unfold M90a.s0;simp only[c1,A7])
 have k1:=iter_count (step:=M90a.s1) (λi=>⟨ofK N 14,ofK N 14,((ofK N 14).length:Int),(i:Int),N,A,[],C,0,N.length,N.length,ln,lp,md,l1,l2,val,ot,inn,st,puts (ofK N 14) st i (puts (ofK N 0) inn (ofK N 0).length (List.replicate N.length 0))⟩) (y:=⟨ofK N 14,N,A,[],C,0,N.length,N.length,ln,lp,md,l1,l2,val,ot,inn,st,base N inn st⟩) (ofK N 14).length (λi hi=>by
  have c1:=ilt (a:=(i:Int)) (b:=((ofK N 14).length:Int)) (by omega);have hr:=(ofK_at hi).1;have hii:i<st.length:=(by rw[hp.ls];exact hi);have hlt:(ofK N 14)[i].toNat<(puts (ofK N 14) st i (puts (ofK N 0) inn (ofK N 0).length (List.replicate N.length 0))).length:=(by rw[puts_len,puts_len,Bk];obtain⟨q1,q2⟩:=hr;omega);unfold M90a.s1;simp only[c1,inR_nat hi,inR_nat hii,A6,getD_at hi,getD_at hii,inR_int hr,AF,dlt hlt,suc (i:=i) (by omega),puts_succ hi hii]) (by
  have c1:=inlt (a:=((ofK N 14).length:Int)) (b:=((ofK N 14).length:Int)) (by omega);unfold M90a.s1;simp only[c1,A7];rfl)
 have k2:=m90a_2 (md:=md) (l1:=l1) (l2:=l2) (ot:=ot) (ln:=ln) (lp:=lp) h hF ho (inn:=inn) (st:=st) (sts:=ofK N 14) hbl hbV;have hnl:(sim (flta ln lp val) N o (base N inn st)).length=N.length:=by rw[sim_len,hbl]
 have hnv:AllV (sim (flta ln lp val) N o (base N inn st)):=sim_V h (flta_ok hF) (λa ha=>by
  obtain⟨k,hk,e⟩:=BB ha;rw[<-e];exact ho.rng hk) hbV
 revert k2 hnl hnv;generalize sim (flta ln lp val) N o (base N inn st)=QH;intro k2 hnl hnv;have k3:=iter_count (step:=M90a.s3) (λi=>⟨ofK N 14,C,(C.length:Int),(i:Int),N,A,[],C,0,N.length,N.length,ln,lp,md,l1,l2,val,ot,inn,st,QH,0,i,(C.take i).map (ky QH)⟩) (y:=⟨ofK N 14,N,A,[],C,0,N.length,N.length,ln,lp,md,l1,l2,val,ot,inn,st,QH,outsV C QH⟩) C.length (λi hi=>by
  have c1:=ilt (a:=(i:Int)) (b:=(C.length:Int)) (by omega);have hr:In N.length C[i]:=h.Q3 _ (A9 hi);have hlt:C[i].toNat<QH.length:=(by rw[hnl];obtain⟨q1,q2⟩:=hr;omega);have e:QH[C[i].toNat]?.getD 0=ky QH C[i]:=rfl;unfold M90a.s3;simp only[c1,inR_nat hi,A6,getD_at hi,inR_int hr,AF,dlt hlt,e,eqN_of rfl,eqN_of (show((C.take i).map (ky QH)).length=i by simp;omega),room (n:=i+1) (b:=1) (by omega) (by omega),AH,suc (i:=i) (by omega),map_snoc hi]) (by
  have c1:=inlt (a:=(C.length:Int)) (b:=(C.length:Int)) (by omega);unfold M90a.s3;simp only[c1,A7,AF,Aa,AE,leB_of (A5 _),AH,A6,AW];rw[AN (by simp)];rfl)
 have k4:=iter_count (step:=M90a.s4) (λi=>⟨ofK N 14,((ofK N 14).length:Int),(i:Int),N,A,[],C,0,N.length,N.length,ln,lp,md,l1,l2,val,ot,inn,st,QH,outsV C QH,0,i,((ofK N 14).take i).map λi=>rdv ((flta ln lp val).rd i 0 (ky QH (pin0 N i)))⟩) (y:=⟨N,A,[],C,0,N.length,N.length,ln,lp,md,l1,l2,val,ot,inn,st,QH,outsV C QH,nexts (flta ln lp val) N QH⟩) (ofK N 14).length (λi hi=>by
  have c1:=ilt (a:=(i:Int)) (b:=((ofK N 14).length:Int)) (by omega);obtain⟨hr,hk⟩:=ofK_at hi;have hd:=h.dff hr hk;have h0:0<(rds (flta ln lp val) N QH (ofK N 14)[i]).length:=(by rw[rds_len];omega);have e0:(rds (flta ln lp val) N QH (ofK N 14)[i])[0]?.getD 0=(flta ln lp val).rd (ofK N 14)[i] 0 (ky QH (pin0 N (ofK N 14)[i])):=(by have h0':0<(pn N (ofK N 14)[i].toNat).length:=(by omega);rw[A4 h0,Aj,rds_at h0 h0'];unfold pin0;rw[A4 h0'];rfl);have hV:=(flta_ok (ln:=ln) (lp:=lp) hF).rd (ofK N 14)[i] 0 _ (allV_ky hnv (pin0 N (ofK N 14)[i]));have e1:(bif (flta ln lp val).rd (ofK N 14)[i] 0 (ky QH (pin0 N (ofK N 14)[i]))==3 then 2 else (flta ln lp val).rd (ofK N 14)[i] 0 (ky QH (pin0 N (ofK N 14)[i])))=rdv ((flta ln lp val).rd (ofK N 14)[i] 0 (ky QH (pin0 N (ofK N 14)[i]))):=by
   revert hV;generalize (flta ln lp val).rd (ofK N 14)[i] 0 (ky QH (pin0 N (ofK N 14)[i]))=w;intro hV;obtain⟨v1,v2⟩:=hV;unfold rdv;by_cases e3:w=3
   ·subst e3;rfl
   ·have g:(w==3)=false:=Ag.2 e3;rw[g,A7,AK (by omega)]
  have c3:inR 0 (rds (flta ln lp val) N QH (ofK N 14)[i]).length=true:=inR_nat h0;unfold M90a.s4;simp only[c1,inR_nat hi,A6,getD_at hi,mrda h hnl hr,bindO,c3,e0,e1,eqN_of rfl,eqN_of (show(((ofK N 14).take i).map λi=>rdv ((flta ln lp val).rd i 0 (ky QH (pin0 N i)))).length=i by simp;omega),room (n:=i+1) (b:=1) (by omega) (by omega),AH,suc (i:=i) (by omega),map_snoc (f:=λi=>rdv ((flta ln lp val).rd i 0 (ky QH (pin0 N i)))) hi]) (by
  have c1:=inlt (a:=((ofK N 14).length:Int)) (b:=((ofK N 14).length:Int)) (by omega);unfold M90a.s4;simp only[c1,A7,AF,Aa,AE,leB_of (A5 _),AH,A6,AW];rw[AN (by simp)];rfl)
 have k0':iter M90a.s0 { sts:=ofK N 14,l:=ofK N 0,n:=((ofK N 0).length:Int),i:=0,Q0:=N,Q1:=A,Q4:=[],Q3:=C,Q6:=0,Q5:=N.length,Q9:=N.length,ln:=ln,lp:=lp,QF:=md,QG:=l1,QP:=l2,value:=val,other:=ot,inn:=inn,state:=st,xs:=List.replicate N.length 0 }=_:=k0;have k1':iter M90a.s1 { sts:=ofK N 14,l:=ofK N 14,n:=((ofK N 14).length:Int),i:=0,Q0:=N,Q1:=A,Q4:=[],Q3:=C,Q6:=0,Q5:=N.length,Q9:=N.length,ln:=ln,lp:=lp,QF:=md,QG:=l1,QP:=l2,value:=val,other:=ot,inn:=inn,state:=st,xs:=puts (ofK N 0) inn (ofK N 0).length (List.replicate N.length 0) }=_:=k1;have k3':iter M90a.s3 { sts:=ofK N 14,l:=C,n:=(C.length:Int),i:=0,Q0:=N,Q1:=A,Q4:=[],Q3:=C,Q6:=0,Q5:=N.length,Q9:=N.length,ln:=ln,lp:=lp,QF:=md,QG:=l1,QP:=l2,value:=val,other:=ot,inn:=inn,state:=st,xs:=QH,Yq:=0,XV:=0,oxs:=[] }=_:=k3;have k4':iter M90a.s4 { l:=ofK N 14,n:=((ofK N 14).length:Int),i:=0,Q0:=N,Q1:=A,Q4:=[],Q3:=C,Q6:=0,Q5:=N.length,Q9:=N.length,ln:=ln,lp:=lp,QF:=md,QG:=l1,QP:=l2,value:=val,other:=ot,inn:=inn,state:=st,xs:=QH,oa:=outsV C QH,Yp:=0,XU:=0,oxs:=[] }=_:=k4;unfold M90a.m;have c1:decide (0<=(N.length:Int))=true:=AB (by omega);have c2:decide ((N.length:Int)<=(N.length:Int))=true:=AB (by omega);have c3:decide ((N.length:Int)*1<=281474976710656)=true:=AB (by omega);have c4:decide ((N.length:Int)<=9223372036854775807)=true:=AB (by omega);simp only[c1,c2,c3,c4,AH,A6,m36 h,m75 h,bindO,AA,k0',k1',h40,k2,k3',k4',m88 (l:=outsV C QH) (by simp[outsV];omega),m88 (l:=nexts (flta ln lp val) N QH) (by simp[nexts];omega)]
end
section
variable {N:NodeL}{A:List (List UInt8)}{C:List Int}{ln lp md l1 l2 val ot:Int}
def mrdb(h:Ck N A C){QH:List Int}(hl:QH.length=N.length){i:Int}(hi:In N.length i):
  M130b.m ⟨i,N,A,[],C,0,N.length,N.length,ln,lp,md,l1,l2,val,ot,QH⟩=some (rds (fltb ln lp val) N QH i,N,A,[],C,0,N.length,N.length,ln,lp,md,l1,l2,val,ot,QH):=by
 have hN:=h.few;have hp:=h.pins hi;have e5:(N[i.toNat]?.getD (0,[],0,0)).2.1=pn N i.toNat:=rfl;have key:=iter_count (step:=M130b.s0) (λk=>⟨i,0,k,pn N i.toNat,((pn N i.toNat).length:Int),(k:Int),N,A,[],C,0,N.length,N.length,ln,lp,md,l1,l2,val,ot,QH,(rds (fltb ln lp val) N QH i).take k⟩) (y:=⟨0,(pn N i.toNat).length,N,A,[],C,0,N.length,N.length,ln,lp,md,l1,l2,val,ot,QH,rds (fltb ln lp val) N QH i⟩) (pn N i.toNat).length (λk hk=>by
  have c1:=ilt (a:=(k:Int)) (b:=((pn N i.toNat).length:Int)) (by omega);have ha:=hp.2 _ (A9 hk);have hlt:(pn N i.toNat)[k].toNat<QH.length:=(by obtain⟨q1,q2⟩:=ha;omega);have hr:k<(rds (fltb ln lp val) N QH i).length:=(by rw[rds_len];exact hk);have hrk:(rds (fltb ln lp val) N QH i).take (k+1)=(rds (fltb ln lp val) N QH i).take k++[(fltb ln lp val).rd i (k:Int) (QH[(pn N i.toNat)[k].toNat]?.getD 0)]:=(by rw[take_succ' hr];congr 2;rw[rds_at hr hk];rfl);unfold M130b.s0;simp only[c1,inR_nat hk,A6,getD_at hk,inR_int ha,AF,dlt hlt,eqN_of rfl,eqN_of (show((rds (fltb ln lp val) N QH i).take k).length=k by rw[B6];omega),room (n:=k+1) (b:=1) (by omega) (by omega),AH,suc (i:=k) (by omega),hrk];by_cases e:(i=ln/\(k:Int)=lp)
  ·have g:(bif i==ln then (k:Int)==lp else false)=true:=(by rw[e.1,e.2];simp);have g2:(fltb ln lp val).rd i (k:Int) (QH[(pn N i.toNat)[k].toNat]?.getD 0)=val:=(by show(if _/\_ then _ else _)=_;rw[AC e]);unfold M152.m;simp only[g,A6,bindO,M128.m,g2,eqN_of rfl,eqN_of (show((rds (fltb ln lp val) N QH i).take k).length=k by rw[B6];omega),room (n:=k+1) (b:=1) (by omega) (by omega),AH]
  ·have g:(bif i==ln then (k:Int)==lp else false)=false:=by
    by_cases e1:i=ln
    ·have:(k:Int)≠lp:=λe2=>e ⟨e1,e2⟩;rw[e1];simpa using this
    ·have:(i==ln)=false:=Ag.2 e1;rw[this];rfl
   have g2:(fltb ln lp val).rd i (k:Int) (QH[(pn N i.toNat)[k].toNat]?.getD 0)=QH[(pn N i.toNat)[k].toNat]?.getD 0:=(by show(if _/\_ then _ else _)=_;rw[AK e]);unfold M152.m;simp only[g,A7,bindO,g2,eqN_of rfl,eqN_of (show((rds (fltb ln lp val) N QH i).take k).length=k by rw[B6];omega),room (n:=k+1) (b:=1) (by omega) (by omega),AH,A6]) (by
  have c1:=inlt (a:=((pn N i.toNat).length:Int)) (b:=((pn N i.toNat).length:Int)) (by omega);have:(rds (fltb ln lp val) N QH i).take (pn N i.toNat).length=rds (fltb ln lp val) N QH i:=AN (by rw[rds_len];exact A5 _);unfold M130b.s0;simp only[c1,A7,this])
 rw[CN]at key;have key':iter M130b.s0 { n:=i,QC:=0,Q8:=0,l:=pn N i.toNat,m:=((pn N i.toNat).length:Int),i:=0,Q0:=N,Q1:=A,Q4:=[],Q3:=C,Q6:=0,Q5:=N.length,Q9:=N.length,ln:=ln,lp:=lp,QF:=md,QG:=l1,QP:=l2,value:=val,other:=ot,xs:=QH,out:=[] }=_:=key;have hrl:(rds (fltb ln lp val) N QH i).length=(pn N i.toNat).length:=rds_len;unfold M130b.m;simp only[inR_int hi,A6,e5,key',bindO,AF,hrl,leB_of (A5 (pn N i.toNat).length),AH,AW];rw[AN (by omega)]
def mevb(h:Ck N A C)(hF:V val){QH:List Int}(hl:QH.length=N.length)(hv:AllV QH){i:Int}(hi:In N.length i):
  M129b.m ⟨i,N,A,[],C,0,N.length,N.length,ln,lp,md,l1,l2,val,ot,QH⟩=some (ev (kd N i) (rds (fltb ln lp val) N QH i),N,A,[],C,0,N.length,N.length,ln,lp,md,l1,l2,val,ot,QH):=by
 have hk:=h.kind hi;have hp:=h.pins hi;have e6:(N[i.toNat]?.getD (0,[],0,0)).1=kd N i:=rfl;have hev:=(ev_ok (k:=kd N i) (l:=rds (fltb ln lp val) N QH i) hk.1 (by omega) (by rw[rds_len];have:=hp.1;omega) (rds_V (fltb_ok hF) hv)).1;unfold M129b.m;simp only[inR_int hi,A6,mrdb h hl hi,bindO,e6,hev]
def m90b_2(h:Ck N A C)(hF:V val){o:List Int}(ho:Ord N o){b inn st sts:List Int}(hb:b.length=N.length)(hv:AllV b):
  iter M90b.s2 ⟨sts,o,(o.length:Int),0,N,A,[],C,0,N.length,N.length,ln,lp,md,l1,l2,val,ot,inn,st,b⟩=some ⟨sts,N,A,[],C,0,N.length,N.length,ln,lp,md,l1,l2,val,ot,inn,st,sim (fltb ln lp val) N o b⟩:=by
 have hN:=h.few;have hlo:=ho.len;have key:=iter_count (step:=M90b.s2) (λi=>⟨sts,o,(o.length:Int),(i:Int),N,A,[],C,0,N.length,N.length,ln,lp,md,l1,l2,val,ot,inn,st,sim (fltb ln lp val) N (o.take i) b⟩) (y:=⟨sts,N,A,[],C,0,N.length,N.length,ln,lp,md,l1,l2,val,ot,inn,st,sim (fltb ln lp val) N o b⟩) o.length (λi hlt=>by
  have c1:=ilt (a:=(i:Int)) (b:=(o.length:Int)) (by omega);have hr:=ho.rng hlt;have hk:=h.kind hr;have hs:=sim_snoc (N:=N) (F:=fltb ln lp val) (b:=b) hlt;have hsl:(sim (fltb ln lp val) N (o.take i) b).length=N.length:=(by rw[sim_len,hb]);have hsv:AllV (sim (fltb ln lp val) N (o.take i) b):=sim_V h (fltb_ok hF) (λa ha=>by
   obtain⟨k,hk,e⟩:=BB (Ci ha);rw[<-e];exact ho.rng hk) hv
  have e6:(N[o[i].toNat]?.getD (0,[],0,0)).1=kd N o[i]:=rfl;have hc:(bif kd N o[i] !=0 then kd N o[i] !=14 else false)=cm N o[i].toNat:=by
   show _=isC (kd N o[i]);unfold isC;by_cases h0:kd N o[i]=0
   ·rw[h0];rfl
   ·by_cases h14:kd N o[i]=14
    ·rw[h14];rfl
    ·have g1:(kd N o[i] !=0)=true:=(by simpa using h0);have g2:(kd N o[i] !=14)=true:=(by simpa using h14);have g3:decide (kd N o[i]>=1)=true:=AB (by omega);have g4:decide (kd N o[i]<=13)=true:=AB (by omega);rw[g1,g2,g3,g4]
  have hlt2:o[i].toNat<(sim (fltb ln lp val) N (o.take i) b).length:=(by rw[hsl];obtain⟨q1,q2⟩:=hr;omega);unfold M90b.s2;simp only[c1,inR_nat hlt,A6,getD_at hlt,inR_int hr,e6,hc,suc (i:=i) (by omega)];have hst:∀QH:List Int,nxt (fltb ln lp val) N (sim (fltb ln lp val) N (o.take i) b) o[i]=QH->QH.set o[i].toNat ((fltb ln lp val).nt o[i] (QH[o[i].toNat]?.getD 0))=sim (fltb ln lp val) N (o.take (i+1)) b:=λQH e=>by rw[hs];unfold stp;rw[e];rfl
  cases hcm:cm N o[i].toNat with
  |true=>have hn:nxt (fltb ln lp val) N (sim (fltb ln lp val) N (o.take i) b) o[i]=(sim (fltb ln lp val) N (o.take i) b).set o[i].toNat (ev (kd N o[i]) (rds (fltb ln lp val) N (sim (fltb ln lp val) N (o.take i) b) o[i])):=(by unfold nxt;rw[AC hcm]);have hst:=hst _ hn;have hlt3:o[i].toNat<((sim (fltb ln lp val) N (o.take i) b).set o[i].toNat (ev (kd N o[i]) (rds (fltb ln lp val) N (sim (fltb ln lp val) N (o.take i) b) o[i]))).length:=(by rw[Ap];exact hlt2);simp only[A6,mevb h hF hsl hsv hr,bindO,AF,dlt hlt2,dlt hlt3];rw[<-hst];rfl
  |false=>
   have hn:nxt (fltb ln lp val) N (sim (fltb ln lp val) N (o.take i) b) o[i]=sim (fltb ln lp val) N (o.take i) b:=(by unfold nxt;rw[AK (by rw[hcm];simp)]);have hst:=hst _ hn;simp only[A7,AF,dlt hlt2,A6];rw[<-hst];rfl) (by
  have c1:=inlt (a:=(o.length:Int)) (b:=(o.length:Int)) (by omega);unfold M90b.s2;simp only[c1,A7,Aa])
 rw[CN]at key;exact key
def m90b(h:Ck N A C)(hF:V val){o:List Int}(ho:Ord N o)(h40:M40.m ⟨N,A,[],C⟩=some (o,0)){inn st:List Int}(hp:Pat N inn st):
  M90b.m ⟨inn,st,N,A,[],C,ln,lp,md,l1,l2,val,ot⟩=some (outsV C (sim (fltb ln lp val) N o (base N inn st)),nexts (fltb ln lp val) N (sim (fltb ln lp val) N o (base N inn st)),N,A,[],C,0,N.length,N.length,ln,lp,md,l1,l2,val,ot,sim (fltb ln lp val) N o (base N inn st)):=by
 have hN:=h.few;have hC:=h.fewC;have lK:(ofK N 14).length<=N.length:=ofN_len;have lI:(ofK N 0).length<=N.length:=ofN_len;have hbV:=base_V (N:=N) hp.vi hp.vs;have hbl:=base_len (N:=N) (inn:=inn) (st:=st);have k0:=iter_count (step:=M90b.s0) (λi=>⟨ofK N 14,ofK N 0,((ofK N 0).length:Int),(i:Int),N,A,[],C,0,N.length,N.length,ln,lp,md,l1,l2,val,ot,inn,st,puts (ofK N 0) inn i (List.replicate N.length 0)⟩) (y:=⟨ofK N 14,N,A,[],C,0,N.length,N.length,ln,lp,md,l1,l2,val,ot,inn,st,puts (ofK N 0) inn (ofK N 0).length (List.replicate N.length 0)⟩) (ofK N 0).length (λi hi=>by
  have c1:=ilt (a:=(i:Int)) (b:=((ofK N 0).length:Int)) (by omega);have hr:=(ofK_at hi).1;have hii:i<inn.length:=(by rw[hp.li];exact hi);have hlt:(ofK N 0)[i].toNat<(puts (ofK N 0) inn i (List.replicate N.length 0)).length:=(by rw[puts_len,Bk];obtain⟨q1,q2⟩:=hr;omega);unfold M90b.s0;simp only[c1,inR_nat hi,inR_nat hii,A6,getD_at hi,getD_at hii,inR_int hr,AF,dlt hlt,suc (i:=i) (by omega),puts_succ hi hii]) (by
  have c1:=inlt (a:=((ofK N 0).length:Int)) (b:=((ofK N 0).length:Int)) (by omega);unfold M90b.s0;simp only[c1,A7])
 have k1:=iter_count (step:=M90b.s1) (λi=>⟨ofK N 14,ofK N 14,((ofK N 14).length:Int),(i:Int),N,A,[],C,0,N.length,N.length,ln,lp,md,l1,l2,val,ot,inn,st,puts (ofK N 14) st i (puts (ofK N 0) inn (ofK N 0).length (List.replicate N.length 0))⟩) (y:=⟨ofK N 14,N,A,[],C,0,N.length,N.length,ln,lp,md,l1,l2,val,ot,inn,st,base N inn st⟩) (ofK N 14).length (λi hi=>by
  have c1:=ilt (a:=(i:Int)) (b:=((ofK N 14).length:Int)) (by omega);have hr:=(ofK_at hi).1;have hii:i<st.length:=(by rw[hp.ls];exact hi);have hlt:(ofK N 14)[i].toNat<(puts (ofK N 14) st i (puts (ofK N 0) inn (ofK N 0).length (List.replicate N.length 0))).length:=(by rw[puts_len,puts_len,Bk];obtain⟨q1,q2⟩:=hr;omega);unfold M90b.s1;simp only[c1,inR_nat hi,inR_nat hii,A6,getD_at hi,getD_at hii,inR_int hr,AF,dlt hlt,suc (i:=i) (by omega),puts_succ hi hii]) (by
  have c1:=inlt (a:=((ofK N 14).length:Int)) (b:=((ofK N 14).length:Int)) (by omega);unfold M90b.s1;simp only[c1,A7];rfl)
 have k2:=m90b_2 (md:=md) (l1:=l1) (l2:=l2) (ot:=ot) (ln:=ln) (lp:=lp) h hF ho (inn:=inn) (st:=st) (sts:=ofK N 14) hbl hbV;have hnl:(sim (fltb ln lp val) N o (base N inn st)).length=N.length:=by rw[sim_len,hbl]
 have hnv:AllV (sim (fltb ln lp val) N o (base N inn st)):=sim_V h (fltb_ok hF) (λa ha=>by
  obtain⟨k,hk,e⟩:=BB ha;rw[<-e];exact ho.rng hk) hbV
 revert k2 hnl hnv;generalize sim (fltb ln lp val) N o (base N inn st)=QH;intro k2 hnl hnv;have k3:=iter_count (step:=M90b.s3) (λi=>⟨ofK N 14,C,(C.length:Int),(i:Int),N,A,[],C,0,N.length,N.length,ln,lp,md,l1,l2,val,ot,inn,st,QH,0,i,(C.take i).map (ky QH)⟩) (y:=⟨ofK N 14,N,A,[],C,0,N.length,N.length,ln,lp,md,l1,l2,val,ot,inn,st,QH,outsV C QH⟩) C.length (λi hi=>by
  have c1:=ilt (a:=(i:Int)) (b:=(C.length:Int)) (by omega);have hr:In N.length C[i]:=h.Q3 _ (A9 hi);have hlt:C[i].toNat<QH.length:=(by rw[hnl];obtain⟨q1,q2⟩:=hr;omega);have e:QH[C[i].toNat]?.getD 0=ky QH C[i]:=rfl;unfold M90b.s3;simp only[c1,inR_nat hi,A6,getD_at hi,inR_int hr,AF,dlt hlt,e,eqN_of rfl,eqN_of (show((C.take i).map (ky QH)).length=i by simp;omega),room (n:=i+1) (b:=1) (by omega) (by omega),AH,suc (i:=i) (by omega),map_snoc hi]) (by
  have c1:=inlt (a:=(C.length:Int)) (b:=(C.length:Int)) (by omega);unfold M90b.s3;simp only[c1,A7,AF,Aa,AE,leB_of (A5 _),AH,A6,AW];rw[AN (by simp)];rfl)
 have k4:=iter_count (step:=M90b.s4) (λi=>⟨ofK N 14,((ofK N 14).length:Int),(i:Int),N,A,[],C,0,N.length,N.length,ln,lp,md,l1,l2,val,ot,inn,st,QH,outsV C QH,0,i,((ofK N 14).take i).map λi=>rdv ((fltb ln lp val).rd i 0 (ky QH (pin0 N i)))⟩) (y:=⟨N,A,[],C,0,N.length,N.length,ln,lp,md,l1,l2,val,ot,inn,st,QH,outsV C QH,nexts (fltb ln lp val) N QH⟩) (ofK N 14).length (λi hi=>by
  have c1:=ilt (a:=(i:Int)) (b:=((ofK N 14).length:Int)) (by omega);obtain⟨hr,hk⟩:=ofK_at hi;have hd:=h.dff hr hk;have h0:0<(rds (fltb ln lp val) N QH (ofK N 14)[i]).length:=(by rw[rds_len];omega);have e0:(rds (fltb ln lp val) N QH (ofK N 14)[i])[0]?.getD 0=(fltb ln lp val).rd (ofK N 14)[i] 0 (ky QH (pin0 N (ofK N 14)[i])):=(by have h0':0<(pn N (ofK N 14)[i].toNat).length:=(by omega);rw[A4 h0,Aj,rds_at h0 h0'];unfold pin0;rw[A4 h0'];rfl);have hV:=(fltb_ok (ln:=ln) (lp:=lp) hF).rd (ofK N 14)[i] 0 _ (allV_ky hnv (pin0 N (ofK N 14)[i]));have e1:(bif (fltb ln lp val).rd (ofK N 14)[i] 0 (ky QH (pin0 N (ofK N 14)[i]))==3 then 2 else (fltb ln lp val).rd (ofK N 14)[i] 0 (ky QH (pin0 N (ofK N 14)[i])))=rdv ((fltb ln lp val).rd (ofK N 14)[i] 0 (ky QH (pin0 N (ofK N 14)[i]))):=by
   revert hV;generalize (fltb ln lp val).rd (ofK N 14)[i] 0 (ky QH (pin0 N (ofK N 14)[i]))=w;intro hV;obtain⟨v1,v2⟩:=hV;unfold rdv;by_cases e3:w=3
   ·subst e3;rfl
   ·have g:(w==3)=false:=Ag.2 e3;rw[g,A7,AK (by omega)]
  have c3:inR 0 (rds (fltb ln lp val) N QH (ofK N 14)[i]).length=true:=inR_nat h0;unfold M90b.s4;simp only[c1,inR_nat hi,A6,getD_at hi,mrdb h hnl hr,bindO,c3,e0,e1,eqN_of rfl,eqN_of (show(((ofK N 14).take i).map λi=>rdv ((fltb ln lp val).rd i 0 (ky QH (pin0 N i)))).length=i by simp;omega),room (n:=i+1) (b:=1) (by omega) (by omega),AH,suc (i:=i) (by omega),map_snoc (f:=λi=>rdv ((fltb ln lp val).rd i 0 (ky QH (pin0 N i)))) hi]) (by
  have c1:=inlt (a:=((ofK N 14).length:Int)) (b:=((ofK N 14).length:Int)) (by omega);unfold M90b.s4;simp only[c1,A7,AF,Aa,AE,leB_of (A5 _),AH,A6,AW];rw[AN (by simp)];rfl)
 have k0':iter M90b.s0 { sts:=ofK N 14,l:=ofK N 0,n:=((ofK N 0).length:Int),i:=0,Q0:=N,Q1:=A,Q4:=[],Q3:=C,Q6:=0,Q5:=N.length,Q9:=N.length,ln:=ln,lp:=lp,QF:=md,QG:=l1,QP:=l2,value:=val,other:=ot,inn:=inn,state:=st,xs:=List.replicate N.length 0 }=_:=k0;have k1':iter M90b.s1 { sts:=ofK N 14,l:=ofK N 14,n:=((ofK N 14).length:Int),i:=0,Q0:=N,Q1:=A,Q4:=[],Q3:=C,Q6:=0,Q5:=N.length,Q9:=N.length,ln:=ln,lp:=lp,QF:=md,QG:=l1,QP:=l2,value:=val,other:=ot,inn:=inn,state:=st,xs:=puts (ofK N 0) inn (ofK N 0).length (List.replicate N.length 0) }=_:=k1;have k3':iter M90b.s3 { sts:=ofK N 14,l:=C,n:=(C.length:Int),i:=0,Q0:=N,Q1:=A,Q4:=[],Q3:=C,Q6:=0,Q5:=N.length,Q9:=N.length,ln:=ln,lp:=lp,QF:=md,QG:=l1,QP:=l2,value:=val,other:=ot,inn:=inn,state:=st,xs:=QH,Yq:=0,XV:=0,oxs:=[] }=_:=k3;have k4':iter M90b.s4 { l:=ofK N 14,n:=((ofK N 14).length:Int),i:=0,Q0:=N,Q1:=A,Q4:=[],Q3:=C,Q6:=0,Q5:=N.length,Q9:=N.length,ln:=ln,lp:=lp,QF:=md,QG:=l1,QP:=l2,value:=val,other:=ot,inn:=inn,state:=st,xs:=QH,oa:=outsV C QH,Yp:=0,XU:=0,oxs:=[] }=_:=k4;unfold M90b.m;have c1:decide (0<=(N.length:Int))=true:=AB (by omega);have c2:decide ((N.length:Int)<=(N.length:Int))=true:=AB (by omega);have c3:decide ((N.length:Int)*1<=281474976710656)=true:=AB (by omega);have c4:decide ((N.length:Int)<=9223372036854775807)=true:=AB (by omega);simp only[c1,c2,c3,c4,AH,A6,m36 h,m75 h,bindO,AA,k0',k1',h40,k2,k3',k4',m88 (l:=outsV C QH) (by simp[outsV];omega),m88 (l:=nexts (fltb ln lp val) N QH) (by simp[nexts];omega)]
end
end Co
namespace M55
structure gX where(Q0:TN)(Q1:TS)(Q4:TM)(Q3:TI)
def g:Sg gX:=⟨[.agg cir4],[],λa b=>⟨a.1.1,a.1.2.1,a.1.2.2.1,a.1.2.2.2.1⟩,λx=>((x.Q0,(x.Q1,(x.Q4,(x.Q3,())))),()),λx=>()⟩
abbrev fY:=Int
def f:Ft fY:=⟨none,cI,[],λa b=>(a),λy=>y,λy=>()⟩
def m(x:gX):Option fY:=bindO (M98.m ⟨x.Q0,x.Q1,x.Q4,x.Q3⟩) λy=>bif y !=0 then some y else bif decide ((x.Q4.length:Int)>0) then some 7 else some 0
def known:QQ prog 55 g f m:=
 kc0 [ck M98.known] s55
end M55
namespace M101
structure gX where(Q0:TN)(Q1:TS)(Q4:TM)(Q3:TI)(ln lp:Int)
def g:Sg gX:=⟨[.agg cir4,.agg [iI,iI]],[],λa b=>⟨a.1.1,a.1.2.1,a.1.2.2.1,a.1.2.2.2.1,a.2.1.1,a.2.1.2.1⟩,λx=>((x.Q0,(x.Q1,(x.Q4,(x.Q3,())))),((x.ln,(x.lp,())),())),λx=>()⟩
abbrev fY:=Bool
def f:Ft fY:=⟨none,.c (.bo),[],λa b=>(a),λy=>y,λy=>()⟩
def m(x:gX):Option fY:=bif inR x.ln x.Q0.length||!bif bif decide (x.ln>=0) then decide (x.ln<(x.Q0.length:Int)) else false then decide (x.lp>= -1) else false then some (bif bif bif decide (x.ln>=0) then decide (x.ln<(x.Q0.length:Int)) else false then decide (x.lp>= -1) else false then decide (x.lp<(↑(List.length (x.Q0[x.ln.toNat]?.getD (0,[],0,0)).2.1):Int)) else false) else none
def known:QQ prog 101 g f m:=
 kc0 [] s101
end M101
namespace M59
structure gX where(Q0:TN)(Q1:TS)(Q4:TM)(Q3:TI)(QF QG QP value other:Int)
def g:Sg gX:=⟨[.agg cir4,.agg [iB,iI,iI,iB,iI]],[],λa b=>⟨a.1.1,a.1.2.1,a.1.2.2.1,a.1.2.2.2.1,a.2.1.1,a.2.1.2.1,a.2.1.2.2.1,a.2.1.2.2.2.1,a.2.1.2.2.2.2.1⟩,λx=>((x.Q0,(x.Q1,(x.Q4,(x.Q3,())))),((x.QF,(x.QG,(x.QP,(x.value,(x.other,()))))),())),λx=>()⟩
abbrev fY:=Int
def f:Ft fY:=⟨none,cI,[],λa b=>(a),λy=>y,λy=>()⟩
def m(x:gX):Option fY:=bindO (M55.m ⟨x.Q0,x.Q1,x.Q4,x.Q3⟩) λy=>bif y !=0 then some y else bindO (bif !bif decide (x.QF>3) then true else decide (x.value>1) then M101.m ⟨x.Q0,x.Q1,x.Q4,x.Q3,x.QG,x.QP⟩ else some false) λy=>bif bif bif decide (x.QF>3) then true else decide (x.value>1) then true else !y then some 1 else bif decide (x.QF>=2) then none else bif x.other !=0 then some 1 else some 0
def known:QQ prog 59 g f m:=
 kc0 [ck M55.known,ck M101.known] s59
end M59
namespace M46a
structure gX where(Q0:TN)(Q1:TS)(Q4:TM)(Q3:TI)(QF QG QP value other:Int)(inn state:TI)
def g:Sg gX:=⟨[.agg cir4,.agg [iB,iI,iI,iB,iI],.agg [aB,aB]],[],λa b=>⟨a.1.1,a.1.2.1,a.1.2.2.1,a.1.2.2.2.1,a.2.1.1,a.2.1.2.1,a.2.1.2.2.1,a.2.1.2.2.2.1,a.2.1.2.2.2.2.1,a.2.2.1.1,a.2.2.1.2.1⟩,λx=>((x.Q0,(x.Q1,(x.Q4,(x.Q3,())))),((x.QF,(x.QG,(x.QP,(x.value,(x.other,()))))),((x.inn,(x.state,())),()))),λx=>()⟩
abbrev fY:=TI×TI×TI×TI×TI×Int
def f:Ft fY:=⟨none,.tup [.inr [aB,aB],.inr [aB,aB],.inl (aB),.inl (iI)],[],λa b=>(a.1.1,a.1.2.1,a.2.1.1,a.2.1.2.1,a.2.2.1,a.2.2.2.1),λy=>((y.1,(y.2.1,())),((y.2.2.1,(y.2.2.2.1,())),(y.2.2.2.2.1,(y.2.2.2.2.2,())))),λy=>()⟩
def m(x:gX):Option fY:=bindO (M59.m ⟨x.Q0,x.Q1,x.Q4,x.Q3,x.QF,x.QG,x.QP,x.value,x.other⟩) λy=>bif y !=0 then some ([],[],[],[],[],y) else bif x.QF==1 then some ([],[],[],[],[],7) else bindO (M15.m ⟨x.Q0,x.Q1,x.Q4,x.Q3,x.inn,x.state⟩) λy=>bif y.2.2.2 !=0 then some ([],[],[],[],[],y.2.2.2) else bindO (M89a.m ⟨x.Q0,x.Q1,x.Q4,x.Q3,x.QF,x.QG,x.QP,x.value,x.other,y.2.2.1⟩) λy_1=>bindO (M90a.m ⟨x.inn,x.state,y_1.2.2.2.2.2.2.2.1,y_1.2.2.2.2.2.2.2.2.1,y_1.2.2.2.2.2.2.2.2.2.1,y_1.2.2.2.2.2.2.2.2.2.2,y_1.2.2.2.2.2.1,y_1.2.2.2.2.2.2.1,y_1.1,y_1.2.1,y_1.2.2.1,y_1.2.2.2.1,y_1.2.2.2.2.1⟩) λy_2=>bif leB (y_2.2.2.2.2.2.2.1+y_2.2.2.2.2.2.2.2.1) y_2.2.2.2.2.2.2.2.2.2.2.2.2.2.2.2.2.length&&true&&true&&true then some (y.1,y.2.1,y_2.1,y_2.2.1,List.take y_2.2.2.2.2.2.2.2.1 (List.drop y_2.2.2.2.2.2.2.1 y_2.2.2.2.2.2.2.2.2.2.2.2.2.2.2.2.2),0) else none
def known:QQ prog 46 g f m:=
 kc0 [ck M59.known,ck M15.known,⟨89,M89a.con,M89a.con_ok⟩,⟨90,M90a.con,M90a.con_ok⟩] s46
end M46a
namespace M46b
structure gX where(Q0:TN)(Q1:TS)(Q4:TM)(Q3:TI)(QF QG QP value other:Int)(inn state:TI)
def g:Sg gX:=⟨[.agg cir4,.agg [iB,iI,iI,iB,iI],.agg [aB,aB]],[],λa b=>⟨a.1.1,a.1.2.1,a.1.2.2.1,a.1.2.2.2.1,a.2.1.1,a.2.1.2.1,a.2.1.2.2.1,a.2.1.2.2.2.1,a.2.1.2.2.2.2.1,a.2.2.1.1,a.2.2.1.2.1⟩,λx=>((x.Q0,(x.Q1,(x.Q4,(x.Q3,())))),((x.QF,(x.QG,(x.QP,(x.value,(x.other,()))))),((x.inn,(x.state,())),()))),λx=>()⟩
abbrev fY:=TI×TI×TI×TI×TI×Int
def f:Ft fY:=⟨none,.tup [.inr [aB,aB],.inr [aB,aB],.inl (aB),.inl (iI)],[],λa b=>(a.1.1,a.1.2.1,a.2.1.1,a.2.1.2.1,a.2.2.1,a.2.2.2.1),λy=>((y.1,(y.2.1,())),((y.2.2.1,(y.2.2.2.1,())),(y.2.2.2.2.1,(y.2.2.2.2.2,())))),λy=>()⟩
def m(x:gX):Option fY:=bindO (M59.m ⟨x.Q0,x.Q1,x.Q4,x.Q3,x.QF,x.QG,x.QP,x.value,x.other⟩) λy=>bif y !=0 then some ([],[],[],[],[],y) else bif x.QF==1 then some ([],[],[],[],[],7) else bindO (M15.m ⟨x.Q0,x.Q1,x.Q4,x.Q3,x.inn,x.state⟩) λy=>bif y.2.2.2 !=0 then some ([],[],[],[],[],y.2.2.2) else bindO (M89b.m ⟨x.Q0,x.Q1,x.Q4,x.Q3,x.QF,x.QG,x.QP,x.value,x.other,y.2.2.1⟩) λy_1=>bindO (M90b.m ⟨x.inn,x.state,y_1.2.2.2.2.2.2.2.1,y_1.2.2.2.2.2.2.2.2.1,y_1.2.2.2.2.2.2.2.2.2.1,y_1.2.2.2.2.2.2.2.2.2.2,y_1.2.2.2.2.2.1,y_1.2.2.2.2.2.2.1,y_1.1,y_1.2.1,y_1.2.2.1,y_1.2.2.2.1,y_1.2.2.2.2.1⟩) λy_2=>bif leB (y_2.2.2.2.2.2.2.1+y_2.2.2.2.2.2.2.2.1) y_2.2.2.2.2.2.2.2.2.2.2.2.2.2.2.2.2.length&&true&&true&&true then some (y.1,y.2.1,y_2.1,y_2.2.1,List.take y_2.2.2.2.2.2.2.2.1 (List.drop y_2.2.2.2.2.2.2.1 y_2.2.2.2.2.2.2.2.2.2.2.2.2.2.2.2.2),0) else none
def known:QQ prog 46 g f m:=
 kc0 [ck M59.known,ck M15.known,⟨89,M89b.con,M89b.con_ok⟩,⟨90,M90b.con,M90b.con_ok⟩] s46
end M46b
namespace M46
structure gX where(Q0:List ((Int)×(List (Int))×(Int)×Int))(Q1:List (List UInt8))(Q4:List ((List (Int))×(List (Int))×Int))(Q3:List (Int))(QF QG QP value other:Int)(inn state:List (Int))
def g:Sg gX:=⟨[.agg cir4,.agg [iB,iI,iI,iB,iI],.agg [.arr (.int .u8),.arr (.int .u8)]],[],λa b=>⟨a.1.1,a.1.2.1,a.1.2.2.1,a.1.2.2.2.1,a.2.1.1,a.2.1.2.1,a.2.1.2.2.1,a.2.1.2.2.2.1,a.2.1.2.2.2.2.1,a.2.2.1.1,a.2.2.1.2.1⟩,λx=>((x.Q0,(x.Q1,(x.Q4,(x.Q3,())))),((x.QF,(x.QG,(x.QP,(x.value,(x.other,()))))),((x.inn,(x.state,())),()))),λx=>()⟩
abbrev fY:=List (Int)×List (Int)×List (Int)×List (Int)×List (Int)×Int
def f:Ft fY:=⟨none,.tup [.inr [.arr (.int .u8),.arr (.int .u8)],.inr [.arr (.int .u8),.arr (.int .u8)],.inl (.arr (.int .u8)),.inl (iI)],[],λa b=>(a.1.1,a.1.2.1,a.2.1.1,a.2.1.2.1,a.2.2.1,a.2.2.2.1),λy=>((y.1,(y.2.1,())),((y.2.2.1,(y.2.2.2.1,())),(y.2.2.2.2.1,(y.2.2.2.2.2,())))),λy=>()⟩
def ga(x:gX):M46a.gX:=⟨x.Q0,x.Q1,x.Q4,x.Q3,x.QF,x.QG,x.QP,x.value,x.other,x.inn,x.state⟩
def gb(x:gX):M46b.gX:=⟨x.Q0,x.Q1,x.Q4,x.Q3,x.QF,x.QG,x.QP,x.value,x.other,x.inn,x.state⟩
def m(x:gX):Option fY:=bif decide (x.QP<0) then M46a.m (ga x) else M46b.m (gb x)
def known:QQ prog 46 g f m:=by
 refine⟨λ_ _=>⟨rfl,rfl⟩,by decide,λx y h=> ?_⟩;rcases cond_some h with ⟨_,h⟩|⟨_,h⟩
 ·exact M46a.known.ok (ga x) y h
 ·exact M46b.known.ok (gb x) y h
end M46
namespace M16
structure gX where(Q0:TN)(Q1:TS)(Q4:TM)(Q3:TI)(QF QG QP value other:Int)(inn state:TI)
def g:Sg gX:=⟨[.agg cir4,.agg [iB,iI,iI,iB,iI],.agg [aB,aB]],[],λa b=>⟨a.1.1,a.1.2.1,a.1.2.2.1,a.1.2.2.2.1,a.2.1.1,a.2.1.2.1,a.2.1.2.2.1,a.2.1.2.2.2.1,a.2.1.2.2.2.2.1,a.2.2.1.1,a.2.2.1.2.1⟩,λx=>((x.Q0,(x.Q1,(x.Q4,(x.Q3,())))),((x.QF,(x.QG,(x.QP,(x.value,(x.other,()))))),((x.inn,(x.state,())),()))),λx=>()⟩
abbrev fY:=TI×TI×TI×Int
def f:Ft fY:=⟨none,.tup [.inr [aB,aB],.inl (aB),.inl (iI)],[],λa b=>(a.1.1,a.1.2.1,a.2.1,a.2.2.1),λy=>((y.1,(y.2.1,())),(y.2.2.1,(y.2.2.2,()))),λy=>()⟩
def m(x:gX):Option fY:=bindO (M46.m ⟨x.Q0,x.Q1,x.Q4,x.Q3,x.QF,x.QG,x.QP,x.value,x.other,x.inn,x.state⟩) λy=>some (y.2.2.1,y.2.2.2.1,y.2.2.2.2.1,y.2.2.2.2.2)
def known:QQ prog 16 g f m:=
 kc0 [ck M46.known] s16
end M16
namespace Co
def ctb(a b:List Int)(k:Int):Bool:=bif bif decide (ky a k<=1) then decide (ky b k<=1) else false then ky a k !=ky b k else false
def ctr(a b:List Int)(i:Nat):List Int:=(nums i).filter (ctb a b)
def ctr_len{a b:List Int}{i:Nat}:(ctr a b i).length<=i:=by have:=CD (ctb a b) (nums i);rwa [nums_len]at this
def ctr_succ{a b:List Int}{i:Nat}:ctr a b (i+1)=if ctb a b (i:Int)=true then ctr a b i++[(i:Int)] else ctr a b i:=by
 unfold ctr;rw[nums_succ,C8]
 cases e:ctb a b (i:Int) with
 |true=>rw[CP e];rfl
 |false=>rw[CQ (by rw[e];simp)];simp
def m108{a b:List Int}(hl:b.length=a.length)(hb:a.length<=100000):M108.m ⟨a,b⟩=some (ctr a b a.length):=by
 have key:=iter_count (step:=M108.s0) (λi=>⟨a,b,0,(ctr a b i).length,(a.length:Int),(i:Int),ctr a b i⟩) (y:=⟨0,(ctr a b a.length).length,ctr a b a.length⟩) a.length (λi hi=>by
  have c1:=ilt (a:=(i:Int)) (b:=(a.length:Int)) (by omega);have hl1:=ctr_len (a:=a) (b:=b) (i:=i);have g1:inR (i:Int) a.length=true:=inR_nat hi;have g2:inR (i:Int) b.length=true:=inR_nat (by omega);have e1:(bif bif decide (a[i]?.getD 0<=1) then decide (b[i]?.getD 0<=1) else false then a[i]?.getD 0 !=b[i]?.getD 0 else false)=ctb a b (i:Int):=rfl;unfold M108.s0;simp only[c1,g1,g2,Bool.true_or,A6,AA,e1,ctr_succ (a:=a) (b:=b) (i:=i),suc (i:=i) (by omega)]
  cases ctb a b (i:Int) with
  |true=>simp only[A6,eqN_of rfl,room (n:=(ctr a b i).length+1) (b:=8) (by omega) (by omega),AH,Aq,AG,Bj]
  |false=>simp only[A7];rfl) (by
  have c1:=inlt (a:=(a.length:Int)) (b:=(a.length:Int)) (by omega);unfold M108.s0;simp only[c1,A7])
 have hn:(if (b.length:Int)<(a.length:Int) then (b.length:Int) else (a.length:Int))=(a.length:Int):=AK (by omega);have key':iter M108.s0 { a:=a,b:=b,QC:=0,Q8:=0,n:=(a.length:Int),i:=0,xs:=[] }=_:=key;have hl1:=ctr_len (a:=a) (b:=b) (i:=a.length);unfold M108.m;simp only[hn,key',bindO,m34 (xs:=ctr a b a.length) (by omega),AF,leB_of (A5 _),AH,A6,AW,Aa]
structure Fa(N:NodeL)(ln lp val:Int):Prop where
 n:In N.length ln
 p: -1<=lp
 q:lp<(pn N ln.toNat).length
 v:val=0\/val=1
def flt(ln lp val:Int):Flt:=if lp<0 then flta ln lp val else fltb ln lp val
def Fa.V{N:NodeL}{ln lp val:Int}(h:Fa N ln lp val):V val:=by
 rcases h.v with rfl|rfl
 ·exact⟨by omega,by omega⟩
 ·exact⟨by omega,by omega⟩
section
variable {N:NodeL}{A:List (List UInt8)}{C:List Int}{ln lp val:Int}
def m98(h:Ck N A C)(ht:Topo N):M98.m ⟨N,A,[],C⟩=some 0:=by obtain⟨lev,h1,_⟩:=m71 h ht;unfold M98.m;simp only[h1,bindO]
def m55(h:Ck N A C)(ht:Topo N):M55.m ⟨N,A,[],C⟩=some 0:=by unfold M55.m;simp only[m98 h ht,bindO];rfl
def m59(h:Ck N A C)(ht:Topo N)(hf:Fa N ln lp val):M59.m ⟨N,A,[],C,0,ln,lp,val,0⟩=some 0:=by
 obtain⟨q1,q2⟩:=hf.n;have p:=hf.p;have q:=hf.q;have e5:(N[ln.toNat]?.getD (0,[],0,0)).2.1=pn N ln.toNat:=rfl;have c1:decide ((0:Int)>3)=false:=rfl;have c2:decide (val>1)=false:=AM (by have:=hf.v;omega);have c3:decide (ln>=0)=true:=AB (by omega);have c4:decide (ln<(N.length:Int))=true:=AB (by omega);have c5:decide (lp>= -1)=true:=AB (by omega);have c6:decide (lp<((pn N ln.toNat).length:Int))=true:=AB (by omega);have h101:M101.m ⟨N,A,[],C,ln,lp⟩=some true:=by unfold M101.m;simp only[inR_int hf.n,Bool.true_or,A6,c3,c4,c5,e5,c6]
 unfold M59.m;simp only[m55 h ht,bindO,BE,A7,c1,c2,Bc,A6,h101,Cb];rfl
def m89a(hp:lp<0){g:List Int}:M89a.m ⟨N,A,[],C,0,ln,lp,val,0,g⟩=some (0,ln,lp,val,0,ln,lp,N,A,[],C):=by have c:decide (lp<0)=true:=AB hp;unfold M89a.m M126a.m;simp only[c,A6,bindO];rfl
def m89b(hp:¬lp<0){g:List Int}:M89b.m ⟨N,A,[],C,0,ln,lp,val,0,g⟩=some (0,ln,lp,val,0,ln,lp,N,A,[],C):=by have c:decide (lp<0)=false:=AM hp;unfold M89b.m M126b.m;simp only[c,A7,bindO];rfl
structure Runs(N:NodeL)(A:List (List UInt8))(C:List Int)(o:List Int):Prop where
 ck:Ck N A C
 tp:Topo N
 od:Ord N o
 m40:M40.m ⟨N,A,[],C⟩=some (o,0)
 m15:∀{inn st:List Int},Pat N inn st->M15.m ⟨N,A,[],C,inn,st⟩=some (outsV C (sim good N o (base N inn st)),nexts good N (sim good N o (base N inn st)),sim good N o (base N inn st),0)
def runs(h:Ck N A C)(ht:Topo N):∃o,Runs N A C o:=by obtain⟨o,h1,h2,h3⟩:=m15 h ht;exact⟨o,h,ht,h1,h2,h3⟩
def m46{o:List Int}(R:Runs N A C o)(hf:Fa N ln lp val){inn st:List Int}(hp:Pat N inn st):
  M46.m ⟨N,A,[],C,0,ln,lp,val,0,inn,st⟩=some (outsV C (sim good N o (base N inn st)),nexts good N (sim good N o (base N inn st)),outsV C (sim (flt ln lp val) N o (base N inn st)),nexts (flt ln lp val) N (sim (flt ln lp val) N o (base N inn st)),sim (flt ln lp val) N o (base N inn st),0):=by
 have hl:∀F:Flt,(sim F N o (base N inn st)).length=N.length:=λF=>by rw[sim_len,base_len]
 unfold M46.m M46.ga M46.gb;by_cases hlp:lp<0
 ·have e:flt ln lp val=flta ln lp val:=AC hlp;have c:decide (lp<0)=true:=AB hlp;have hl:=hl (flta ln lp val);rw[e];unfold M46a.m;simp only[c,A6,m59 R.ck R.tp hf,bindO,BE,A7,R.m15 hp,m89a hlp,m90a R.ck hf.V R.od R.m40 hp,AF,hl,leB_of (A5 _),AH,AW];rw[AN (by omega)];rfl
 ·have e:flt ln lp val=fltb ln lp val:=AK hlp;have c:decide (lp<0)=false:=AM hlp;have hl:=hl (fltb ln lp val);rw[e];unfold M46b.m;simp only[c,A6,A7,m59 R.ck R.tp hf,bindO,BE,R.m15 hp,m89b hlp,m90b R.ck hf.V R.od R.m40 hp,AF,hl,leB_of (A5 _),AH,AW];rw[AN (by omega)];rfl
def m16{o:List Int}(R:Runs N A C o)(hf:Fa N ln lp val){inn st:List Int}(hp:Pat N inn st):
  M16.m ⟨N,A,[],C,0,ln,lp,val,0,inn,st⟩=some (outsV C (sim (flt ln lp val) N o (base N inn st)),nexts (flt ln lp val) N (sim (flt ln lp val) N o (base N inn st)),sim (flt ln lp val) N o (base N inn st),0):=by
 unfold M16.m;simp only[m46 R hf hp,bindO]
end
end Co
namespace Co
def m118_low{l:List Int}{low high:Int}(hl:l.length<=1000000)(hm:low∈l):M118.m ⟨l,low,high⟩=some low:=by
 obtain⟨y,h1,h2⟩:=iter_inv (step:=M118.s0) (λx=>∃(k:Nat) (out:Int),x=(⟨low,high,out,l,(l.length:Int),(k:Int)⟩:M118.p0X)/\low∈l.drop k) (λx=>l.length - x.i.toNat)
  (λy=>y=.inr ⟨low⟩) (by
   rintro x ⟨k,out,rfl,hd⟩;have hlt:k<l.length:=(by refine Nat.lt_of_not_le λh=> ?_;rw[Be h]at hd;cases hd);have e1:decide ((k:Int)<(l.length:Int))=true:=AB (by omega);unfold M118.s0;simp only[e1,inR_nat hlt,getD_at hlt,A6,suc (i:=k) (by omega)];by_cases e2:l[k]=low
   ·exact⟨.inr (.inr ⟨low⟩),by rw[BU.2 e2,A6],rfl⟩
   ·refine⟨.inl ⟨low,high,bif l[k] !=high then 2 else out,l,(l.length:Int),((k+1:Nat):Int)⟩,by rw[Ag.2 e2,A7],⟨k+1,_,rfl,?_⟩,by simp;omega⟩;rw[Cl hlt]at hd;rcases AT.1 hd with h|h
    ·exact absurd h.symm e2
    ·exact h) ⟨low,high,high,l,(l.length:Int),((0:Nat):Int)⟩ ⟨0,high,rfl,hm⟩
 subst h2;unfold M118.m;have h1':iter M118.s0 { low:=low,high:=high,out:=high,l:=l,n:=(l.length:Int),i:=0 }=some (.inr ⟨low⟩):=h1;simp only[h1',bindO];rfl
def m170_1(x v:Int):M170.m ⟨[x],v⟩=some (bif v==x then 0 else -1):=by
 have e0:iter M170.s0 { s:=[x],v:=v,n:=(([x]:List Int).length:Int),i:=0 }=some (bif v==x then .inr ⟨0⟩ else .inl ()):=by
  rw[iter_eq];have:M170.s0 { s:=[x],v:=v,n:=(([x]:List Int).length:Int),i:=0 }=bif v==x then some (.inr (.inr ⟨0⟩)) else some (.inl ⟨[x],v,1,1⟩):=rfl
  rw[this]
  cases v==x with
  |true=>rfl
  |false=>show iter M170.s0 ⟨[x],v,1,1⟩=_;rw[iter_eq];rfl
 unfold M170.m;rw[e0];cases v==x<;>rfl
def m86_1{x:Int}(hx:x=0\/x=1):M86.m ⟨[x]⟩=some x:=by
 have e0:M116b.m ⟨[x]⟩=some 0:=by
  have:iter M116b.s0 { s:=[x],n:=(([x]:List Int).length:Int),i:=0 }=some (.inr ⟨0⟩):=by rw[iter_eq];rcases hx with rfl|rfl<;>rfl
  unfold M116b.m;rw[this];rfl
 have e1:M122.m ⟨[x]⟩=some false:=by unfold M122.m M148.m;rw[m170_1,m170_1];rcases hx with rfl|rfl<;>rfl
 have e2:M76a.m ⟨[x]⟩=some false:=by
  have:iter M116a.s0 { s:=[x],n:=(([x]:List Int).length:Int),i:=0 }=some (.inl ()):=by
   rw[iter_eq];have:M116a.s0 { s:=[x],n:=(([x]:List Int).length:Int),i:=0 }=some (.inl ⟨[x],1,1⟩):=by rcases hx with rfl|rfl<;>rfl
   rw[this];show iter M116a.s0 ⟨[x],1,1⟩=_;rw[iter_eq];rfl
  unfold M76a.m M116a.m;rw[this];rfl
 unfold M86.m;rw[e0,e1];simp only[bindO,Bc,A6,e2];rfl
def Rule(k:Int)(len:Nat)(r:Int×Int):Prop:=
 (k=3\/(k=13/\len=1))/\(r=(0,0)\/r=(1,1))\/k=4/\(r=(0,1)\/r=(1,0))\/k=5/\r=(0,0)\/k=6/\r=(0,1)\/k=7/\r=(1,1)\/k=8/\r=(1,0)
def one_of{l:List Int}{p:Nat}{x:Int}(h:l.length=1)(hp:l[p]? =some x):l=[x]:=by
 obtain⟨a,rfl⟩:=List.length_eq_one_iff.1 h
 cases p with
 |zero=>simpa using hp
 |succ p=>simp at hp
def ev_rule{k:Int}{l:List Int}{r:Int×Int}{p:Nat}(h:Rule k l.length r)(f0:(fan k).1<=l.length)(f1:(l.length:Int)<=(fan k).2)(hp:l[p]? =some r.1):ev k l=r.2:=by
 have hm:r.1∈l:=BX hp;have big:∀lo hi:Int,fan k=(lo,hi)->lo<=l.length/\(l.length:Int)<=hi:=λlo hi e=>by rw[e]at f0 f1;exact⟨f0,f1⟩
 rcases h with ⟨hk,hr⟩|⟨rfl,hr⟩|⟨rfl,rfl⟩|⟨rfl,rfl⟩|⟨rfl,rfl⟩|⟨rfl,rfl⟩
 ·have h1:l.length=1:=by
   rcases hk with rfl|⟨rfl,h⟩
   ·have:=big 1 1 rfl;omega
   ·exact h
  obtain rfl:=one_of h1 hp;rcases hk with rfl|⟨rfl,_⟩
  ·rcases hr with rfl|rfl<;>rfl
  ·rcases hr with rfl|rfl
   ·unfold ev M44.m;rw[show M78.m ⟨13⟩=some (1,16) from rfl];simp only[bindO,m86_1 (.inl rfl)];rfl
   ·unfold ev M44.m;rw[show M78.m ⟨13⟩=some (1,16) from rfl];simp only[bindO,m86_1 (.inr rfl)];rfl
 ·have:=big 1 1 rfl;obtain rfl:=one_of (by omega) hp;rcases hr with rfl|rfl<;>rfl
 all_goals
  have hb:=big 2 16 rfl;have c1:decide ((l.length:Int)<2)=false:=AM (by omega);have c2:decide ((l.length:Int)>16)=false:=AM (by omega);unfold ev M44.m
 ·rw[show M78.m ⟨5⟩=some (2,16) from rfl];unfold M81.m;simp only[bindO,c1,c2,m118_low (by omega) hm];rfl
 ·rw[show M78.m ⟨6⟩=some (2,16) from rfl];unfold M81.m;simp only[bindO,c1,c2,m118_low (by omega) hm];rfl
 ·rw[show M78.m ⟨7⟩=some (2,16) from rfl];unfold M82.m;simp only[bindO,c1,c2,m118_low (by omega) hm];rfl
 ·rw[show M78.m ⟨8⟩=some (2,16) from rfl];unfold M82.m;simp only[bindO,c1,c2,m118_low (by omega) hm];rfl
def rsp(N:NodeL)(C o:List Int)(ln lp v:Int)(b:List Int):List Int×List Int:=
 (outsV C (sim (flt ln lp v) N o b),nexts (flt ln lp v) N (sim (flt ln lp v) N o b))
def rds_congr{N:NodeL}{F F':Flt}{QH nets':List Int}{i:Int}(h:∀k (hk:k<(pn N i.toNat).length),F.rd i (k:Int) (ky QH (pn N i.toNat)[k])=F'.rd i (k:Int) (ky nets' (pn N i.toNat)[k])):rds F N QH i=rds F' N nets' i:=
 BW (by simp[rds]) λk h1 h2=>by simp only[rds,List.getElem_mapIdx];exact h k (by simpa [rds] using h1)
def ck_lt{n:Int}{m:Nat}(h:In m n):n.toNat<m:=by obtain⟨q1,q2⟩:=h;omega
section
variable {N:NodeL}{A:List (List UInt8)}{C o:List Int}
def Ck.fan(h:Ck N A C){i:Int}(hi:In N.length i):(fan (kd N i)).1<=(pn N i.toNat).length/\((pn N i.toNat).length:Int)<=(Co.fan (kd N i)).2:=by obtain⟨x,e,hx⟩:=h.node hi;unfold pn kd;rw[<-e];exact⟨hx.f0,hx.f1⟩
def gate_stp(h:Ck N A C){n:Int}{p:Nat}(hc:cm N n.toNat=true){r:Int×Int}(hr:Rule (kd N n) (pn N n.toNat).length r)(hp:p<(pn N n.toNat).length){QH:List Int}{i:Int}(hi:In N.length i):
  stp (fltb n p r.1) N QH i=stp (flta n (-1) r.2) N QH i:=by
 by_cases e:i=n
 ·subst e;have hf:=h.fan hi;have hev:ev (kd N i) (rds (fltb i p r.1) N QH i)=r.2:=by
   refine ev_rule (p:=p) ?_ ?_ ?_ ?_
   ·rw[rds_len];exact hr
   ·rw[rds_len];exact hf.1
   ·rw[rds_len];exact hf.2
   ·have hp':p<(rds (fltb i p r.1) N QH i).length:=(by rw[rds_len];exact hp);rw[A4 hp',rds_at hp' hp];show some (if i=i/\((p:Int))=p then r.1 else _)=_;rw[AC ⟨rfl,rfl⟩]
  have e1:nxt (fltb i p r.1) N QH i=QH.set i.toNat r.2:=(by unfold nxt;rw[AC hc,hev]);have e2:nxt (flta i (-1) r.2) N QH i=QH.set i.toNat (ev (kd N i) (rds (flta i (-1) r.2) N QH i)):=(by unfold nxt;rw[AC hc]);unfold stp;rw[e1,e2];show(QH.set i.toNat r.2).set i.toNat (ky (QH.set i.toNat r.2) i)=(QH.set i.toNat _).set i.toNat (if i=i then r.2 else _);rw[AC rfl,set_same,List.set_set]
 ·have e1:rds (fltb n p r.1) N QH i=rds (flta n (-1) r.2) N QH i:=rds_congr λk hk=>(by show(if i=n/\_ then r.1 else _)=_;rw[AK (λh=>e h.1)];rfl);have e2:nxt (fltb n p r.1) N QH i=nxt (flta n (-1) r.2) N QH i:=(by unfold nxt;rw[e1]);unfold stp;rw[e2];show List.set _ _ (ky _ i)=List.set _ _ (if i=n then r.2 else _);rw[AK e]
def sim_eq{F F':Flt}:∀{o b:List Int},(∀i∈o,∀QH,stp F N QH i=stp F' N QH i)->sim F N o b=sim F' N o b
 |[],_,_=>rfl
 |i::o,b,h=>by show sim F N o (stp F N b i)=sim F' N o (stp F' N b i);rw[h i (B4 ..)];exact sim_eq λj hj=>h j (Bv _ hj)
def flt_pin{n:Int}{p:Nat}{v:Int}:flt n (p:Int) v=fltb n p v:=AK (by omega)
def flt_net{n v:Int}:flt n (-1) v=flta n (-1) v:=AC (by omega)
def rsp_gate(h:Ck N A C)(ho:∀i∈o,In N.length i){n:Int}{p:Nat}(hn:In N.length n)(hc:cm N n.toNat=true){r:Int×Int}(hr:Rule (kd N n) (pn N n.toNat).length r)(hp:p<(pn N n.toNat).length){b:List Int}:
  rsp N C o n p r.1 b=rsp N C o n (-1) r.2 b:=by
 unfold rsp;rw[flt_pin,flt_net,sim_eq (F:=fltb n p r.1) (F':=flta n (-1) r.2) λi hi QH=>gate_stp h hc hr hp (ho i hi)];congr 1;refine Ai λi hi=> ?_;obtain⟨h1,h2⟩:=ofK_mem.1 hi;have:i≠n:=λe=>by subst e;have:cm N i.toNat=isC (kd N i):=rfl;rw[this,h2]at hc;cases hc
 show rdv (if i=n/\_ then r.1 else _)=_;rw[AK (λh=>this h.1)];rfl
structure One(N:NodeL)(C:List Int)(n m q:Int):Prop where
 hn:In N.length n
 hm:In N.length m
 hq:0<=q
 rd:(pn N m.toNat)[q.toNat]? =some n
 one:∀i k:Nat,i<N.length->(pn N i)[k]? =some n->(i:Int)=m/\(k:Int)=q
 out:n∉C
structure Alike(n v:Int)(d:Prop)(L:Nat)(a b:List Int):Prop where
 la:a.length=L
 lb:b.length=L
 eq:∀j:Nat,j≠n.toNat->a[j]? =b[j]?
 at':d->ky a n=v
def Alike.ky{n v:Int}{d:Prop}{L:Nat}{a b:List Int}(h:Alike n v d L a b){x:Int}(hn:0<=n)(hx:0<=x)(hne:x≠n):ky a x=ky b x:=by unfold Co.ky;rw[h.eq _ (by omega)]
def ky_set{l:List Int}{i x v:Int}(hi:i.toNat<l.length)(h:x=i):ky (l.set i.toNat v) x=v:=by subst h;unfold ky;rw[BM,AC rfl,AC hi];rfl
def ky_set_ne{l:List Int}{i x v:Int}(hi:0<=i)(hx:0<=x)(h:x≠i):ky (l.set i.toNat v) x=ky l x:=by unfold ky;rw[BM,AK (by omega)]
def alike_stp(h:Ck N A C){n m q v:Int}(hO:One N C n m q){d:Prop}{a b:List Int}(hA:Alike n v d N.length a b){i:Int}(hi:In N.length i)(hd:cm N i.toNat=true->n∈pn N i.toNat->d):
  Alike n v (d\/n=i) N.length (stp (flta n (-1) v) N a i) (stp (fltb m q v) N b i):=by
 have hr:cm N i.toNat=true->rds (flta n (-1) v) N a i=rds (fltb m q v) N b i:=λhc=>rds_congr λk hk=>by
  have hx:=(h.pins hi).2 _ (A9 hk);show Co.ky a _=if i=m/\(k:Int)=q then v else Co.ky b _
  by_cases e:(pn N i.toNat)[k]=n
  ·have:=hO.one i.toNat k (ck_lt hi) (by rw[A4 hk,e]);rw[Az hi.1]at this;rw[AC this,e];exact hA.at' (hd hc (e▸A9 hk))
  ·have:¬(i=m/\(k:Int)=q):=λ⟨e1,e2⟩=>(by have h3:=hO.rd;rw[<-e1,<-e2,AA,A4 hk]at h3;exact e (BA h3));rw[AK this];exact hA.ky hO.hn.1 hx.1 e
 have hN:Alike n v d N.length (nxt (flta n (-1) v) N a i) (nxt (fltb m q v) N b i)\/n=i/\(∀j:Nat,j≠n.toNat->(nxt (flta n (-1) v) N a i)[j]? =(nxt (fltb m q v) N b i)[j]?):=by
  unfold nxt;by_cases hc:cm N i.toNat=true
  ·rw[AC hc,AC hc,hr hc];have he:∀j:Nat,j≠n.toNat->(a.set i.toNat (ev (kd N i) (rds (fltb m q v) N b i)))[j]? =(b.set i.toNat (ev (kd N i) (rds (fltb m q v) N b i)))[j]? :=λj hj=>(by rw[BM,BM,hA.eq j hj,hA.la,hA.lb]);by_cases e:n=i
   ·exact .inr ⟨e,he⟩
   ·exact .inl ⟨by rw[Ap,hA.la],by rw[Ap,hA.lb],he,λhd=>by rw[ky_set_ne hi.1 hO.hn.1 e];exact hA.at' hd⟩
  ·rw[AK hc,AK hc];exact .inl hA
 have ha:(nxt (flta n (-1) v) N a i).length=N.length:=by rw[nxt_len,hA.la]
 have hb:(nxt (fltb m q v) N b i).length=N.length:=by rw[nxt_len,hA.lb]
 have e2:stp (fltb m q v) N b i=nxt (fltb m q v) N b i:=set_same;rw[e2];unfold stp;generalize nxt (flta n (-1) v) N a i=a1 at*
 generalize nxt (fltb m q v) N b i=b1 at*
 show Alike n v _ N.length (a1.set i.toNat (if i=n then v else Co.ky a1 i)) b1;have hlt:=ck_lt hi;by_cases e:i=n
 ·subst e;rw[AC rfl];have hE:∀j:Nat,j≠i.toNat->a1[j]? =b1[j]? :=by
   rcases hN with h|h
   ·exact h.eq
   ·exact h.2
  exact⟨by rw[Ap,ha],hb,λj hj=>by rw[BM,AK (λh=>hj h.symm)];exact hE j hj,λ_=>ky_set (by omega) rfl⟩
 ·rw[AK e,set_same];rcases hN with h|h
  ·exact⟨h.la,h.lb,h.eq,λhd=>by
    rcases hd with hd|hd
    ·exact h.at' hd
    ·exact absurd hd.symm e⟩
  ·exact absurd h.1.symm e
def alike_sim(h:Ck N A C){n m q v:Int}(hO:One N C n m q)(hord:Ord N o):∀(o2 o1:List Int),o=o1++o2->∀{a b:List Int},Alike n v (n∈o1) N.length a b->Alike n v (n∈o) N.length (sim (flta n (-1) v) N o2 a) (sim (fltb m q v) N o2 b)
 |[],o1,e,a,b,hA=>by rw[Bn]at e;subst e;exact hA
 |i::o2,o1,e,a,b,hA=>by
  have hi:In N.length i:=nums_mem.1 (hord.p.mem_iff.1 (by rw[e];simp));have h1:=alike_stp h hO hA hi λhc hn=>hord.b o1 i o2 e hc _ hn;have h2:Alike n v (n∈o1++[i]) N.length (stp (flta n (-1) v) N a i) (stp (fltb m q v) N b i):=⟨h1.la,h1.lb,h1.eq,λhm=>h1.at' (by
   rcases Ak.1 hm with hm|hm
   ·exact .inl hm
   ·exact .inr (Ae.1 hm))⟩
  exact alike_sim h hO hord o2 (o1++[i]) (by rw[e];simp) h2
def rsp_stem(h:Ck N A C)(hord:Ord N o){n m q v:Int}(hO:One N C n m q){b:List Int}(hb:b.length=N.length):rsp N C o n (-1) v b=rsp N C o m q v b:=by
 have hA:=alike_sim h hO hord o [] rfl (v:=v) (a:=b) (b:=b) ⟨hb,hb,λ_ _=>rfl,λhm=>by cases hm⟩;obtain⟨p,rfl⟩:∃p:Nat,q=(p:Int):=⟨q.toNat,(Az hO.hq).symm⟩;unfold rsp;rw[flt_pin,flt_net];have hno:n∈o:=hord.p.mem_iff.2 (nums_mem.2 hO.hn);congr 1
 ·refine Ai λx hx=> ?_;exact hA.ky hO.hn.1 (h.Q3 x hx).1 (λe=>hO.out (e▸hx))
 ·refine Ai λi hi=> ?_;obtain⟨h1,h2⟩:=ofK_mem.1 hi;have hp:=h.dff h1 h2;have h0:0<(pn N i.toNat).length:=(by omega);have e0:(pn N i.toNat)[0]? =some (pin0 N i):=(by unfold pin0;rw[A4 h0];rfl);have hx:In N.length (pin0 N i):=(h.pins h1).2 _ (BX e0);show rdv (Co.ky _ _)=rdv (if i=m/\(0:Int)=(p:Int) then v else Co.ky _ _);by_cases e:pin0 N i=n
  ·have:_/\(0:Int)=(p:Int):=hO.one i.toNat 0 (ck_lt h1) (by rw[e0,e]);rw[Az h1.1]at this;rw[AC this,e,hA.at' hno]
  ·have:¬(i=m/\(0:Int)=(p:Int)):=λ⟨e1,e2⟩=>(by have h3:=hO.rd;rw[<-e1,<-e2]at h3;rw[show(0:Int).toNat=0 from rfl,e0]at h3;exact e (BA h3));rw[AK this,hA.ky hO.hn.1 hx.1 e]
def Closed(N:NodeL)(S:Nat->Prop):Prop:=∀i,In N.length i->S i.toNat->kd N i≠14->∀a∈pn N i.toNat,S a.toNat
def cm_dff{i:Int}(hc:cm N i.toNat=true):kd N i≠14:=λe=>by have:cm N i.toNat=isC (kd N i):=rfl;rw[this,e]at hc;cases hc
def cone_sim{S:Nat->Prop}(hS:Closed N S){F:Flt}(hF:∀i,In N.length i->S i.toNat->(∀k v,F.rd i k v=v)/\∀v,F.nt i v=v):∀(o:List Int) {a b:List Int},(∀i∈o,In N.length i)->a.length=b.length->(∀j,S j->a[j]? =b[j]?)->∀j,S j->(sim F N o a)[j]? =(sim good N o b)[j]?
 |[],_,_,_,_,h,j,hj=>h j hj
 |i::o,a,b,ho,hl,h,j,hj=>by
  have hi:=ho i (B4 ..);refine cone_sim hS hF o (λk hk=>ho k (Bv _ hk)) (by rw[stp_len,stp_len,hl]) (λj hj=> ?_) j hj;rw[stp_good];unfold stp;by_cases e:i.toNat=j
  ·obtain⟨f1,f2⟩:=hF i hi (e▸hj);rw[f2,set_same];unfold nxt;by_cases hc:cm N i.toNat=true
   ·have hr:rds F N a i=rds good N b i:=rds_congr λk hk=>(by rw[f1];show ky a _=ky b _;unfold ky;rw[h _ (hS i hi (e▸hj) (cm_dff hc) _ (A9 hk))]);rw[AC hc,AC hc,hr,BM,BM,hl,h j hj]
   ·rw[AK hc,AK hc];exact h j hj
  ·rw[BM,AK e];unfold nxt;split
   ·rw[BM,AK e,BM,AK e];exact h j hj
   ·exact h j hj
def flt_off{ln lp v:Int}{i:Int}(h:i≠ln):(∀k x,(flt ln lp v).rd i k x=x)/\∀x,(flt ln lp v).nt i x=x:=by
 unfold flt;split
 ·exact⟨λ_ _=>rfl,λx=>AK h⟩
 ·exact⟨λk x=>AK λe=>h e.1,λ_=>rfl⟩
end
end Co
namespace Co
def pa(ps:List Int)(i:Nat):Nat:=(ps[i]?.getD 0).toNat
structure UF{X:Type}(ρ:Nat->X)(n:Nat)(h:Nat->Nat)(B:Nat)(ps:List Int):Prop where
 len:ps.length=n
 rng:∀i,i<n->In n (ps[i]?.getD 0)
 up:∀i,i<n->pa ps i≠i->h i<h (pa ps i)
 top:∀i,i<n->h i<=B
 eq:∀i,i<n->ρ i=ρ (pa ps i)
def Uf{X:Type}(ρ:Nat->X)(n:Nat)(ps:List Int):Prop:=∃h B,UF ρ n h B ps
def pa_set{ps:List Int}{i j:Nat}{v:Nat}(hi:i<ps.length):pa (ps.set i (v:Int)) j=if j=i then v else pa ps j:=by
 unfold pa;rw[getSet hi];split
 ·exact AA _
 ·rfl
section
variable {X:Type}{ρ:Nat->X}{n:Nat}
def UF.lt{h:Nat->Nat}{B:Nat}{ps:List Int}(U:UF ρ n h B ps){i:Nat}(hi:i<n):pa ps i<n:=ck_lt (U.rng i hi)
def UF.pa_eq{h:Nat->Nat}{B:Nat}{ps:List Int}(U:UF ρ n h B ps){i:Nat}(hi:i<n):ps[i]?.getD 0=(pa ps i:Int):=(Az (U.rng i hi).1).symm
def UF.set{h:Nat->Nat}{B:Nat}{ps:List Int}(U:UF ρ n h B ps){i v:Nat}(hi:i<n)(hv:v<n)(hh:h i<h v)(he:ρ i=ρ v):UF ρ n h B (ps.set i (v:Int)) where
 len:=by rw[Ap];exact U.len
 rng:=λj hj=>by
  rw[getSet (by rw[U.len];exact hi)];split
  ·exact⟨by omega,by omega⟩
  ·exact U.rng j hj
 up:=λj hj hne=>by
  rw[pa_set (by rw[U.len];exact hi)]at hne⊢;by_cases e:j=i
  ·rw[AC e,e];exact hh
  ·rw[AK e]at hne⊢;exact U.up j hj hne
 top:=U.top
 eq:=λj hj=>by
  rw[pa_set (by rw[U.len];exact hi)];by_cases e:j=i
  ·rw[AC e,e];exact he
  ·rw[AK e];exact U.eq j hj
def m61{h:Nat->Nat}{B:Nat}{ps:List Int}(U:UF ρ n h B ps){i:Nat}(hi:i<n){a0 a1 k:Nat}{fs:List Int}:
  ∃(r:Nat) (ps':List Int),M61.m ⟨(i:Int),a0,a1,0,n,k,fs,ps⟩=some ((r:Int),a0,a1,0,n,k,fs,ps')/\r<n/\UF ρ n h B ps'/\pa ps' r=r/\ρ i=ρ r/\∀j,j<n->pa ps j=j->pa ps' j=j:=by
 obtain⟨y,h1,r,ps',rfl,h3⟩:=iter_inv (step:=M61.s0) (λx=>∃(j:Nat) (qs:List Int),x=(⟨(j:Int),a0,a1,0,n,k,fs,qs⟩:M61.p0X)/\j<n/\UF ρ n h B qs/\ρ i=ρ j/\∀t,t<n->pa ps t=t->pa qs t=t) (λx=>B - h x.i.toNat)
  (λy=>∃(r:Nat) (ps':List Int),y=(⟨(r:Int),a0,a1,0,n,k,fs,ps'⟩:M61.q0X)/\r<n/\UF ρ n h B ps'/\pa ps' r=r/\ρ i=ρ r/\∀j,j<n->pa ps j=j->pa ps' j=j) (by
   rintro x ⟨j,qs,rfl,hj,hU,Hr,hK⟩;have hjl:j<qs.length:=(by rw[hU.len];exact hj);have hp:=hU.lt hj;have hpp:=hU.lt hp;have hpl:pa qs j<qs.length:=(by rw[hU.len];exact hp);have e1:qs[j]?.getD 0=(pa qs j:Int):=hU.pa_eq hj;have e2:qs[pa qs j]?.getD 0=(pa qs (pa qs j):Int):=hU.pa_eq hp;have hsl:∀v:Int,(qs.set j v).length=qs.length:=λv=>Ap;have e3:(qs.set j (pa qs (pa qs j):Int))[j]?.getD 0=(pa qs (pa qs j):Int):=(by rw[getSet hjl,AC rfl]);unfold M61.s0;simp only[inR_nat hj,A6,AA,AF,dlt hjl,e1,inR_nat hp,dlt hpl,e2,hsl,e3];by_cases e:pa qs j=j
   ·have c:((pa qs j:Int) !=(j:Int))=false:=(by rw[e];simp);simp only[c,A7];exact⟨_,rfl,j,qs,rfl,hj,hU,e,Hr,hK⟩
   ·have c:((pa qs j:Int) !=(j:Int))=true:=bne_iff_ne.2 λh=>e (by omega);simp only[c,A6];have g1:=hU.up j hj e;have g2:h (pa qs j)<=h (pa qs (pa qs j)):=by
     by_cases e':pa qs (pa qs j)=pa qs j
     ·rw[e'];exact A5 _
     ·exact Nat.le_of_lt (hU.up _ hp e')
    have g3:=hU.eq j hj;have g4:=hU.eq _ hp;refine⟨_,rfl,⟨pa qs (pa qs j),_,rfl,hpp,hU.set hj hpp (by omega) (g3.trans g4),Hr.trans (g3.trans g4),λt ht hr=> ?_⟩,?_⟩
    ·have g5:=hK t ht hr;rw[pa_set hjl];by_cases e':t=j
     ·subst e';exact absurd g5 e
     ·rw[AK e'];exact g5
    ·have:=hU.top _ hpp;simp only[AA];omega) ⟨(i:Int),a0,a1,0,n,k,fs,ps⟩ ⟨i,ps,rfl,hi,U,rfl,λ_ _ h=>h⟩
 refine⟨r,ps',?_,h3⟩;unfold M61.m;have h1':iter M61.s0 { i:=(i:Int),J5:=a0,Qt:=a1,QS:=0,Qe:=n,Qw:=k,fs:=fs,ps:=ps }=_:=h1;simp only[h1',bindO]
def m105{ps:List Int}(U:Uf ρ n ps){a b:Nat}(ha:a<n)(hb:b<n)(he:ρ a=ρ b){a0 a1 k:Nat}{fs:List Int}:
  ∃ps',M105.m ⟨(a:Int),(b:Int),a0,a1,0,n,k,fs,ps⟩=some (a0,a1,0,n,k,fs,ps')/\Uf ρ n ps':=by
 obtain⟨h,B,U⟩:=U;obtain⟨r,p1,e1,r1,U1,t1,q1,k1⟩:=m61 U ha (a0:=a0) (a1:=a1) (k:=k) (fs:=fs);obtain⟨s,p2,e2,r2,U2,t2,q2,k2⟩:=m61 U1 hb (a0:=a0) (a1:=a1) (k:=k) (fs:=fs);have tr:=k2 r r1 t1;have hl:r<p2.length:=by rw[U2.len];exact r1
 refine⟨p2.set r (s:Int),?_,?_⟩
 ·unfold M105.m;simp only[e1,e2,bindO,inR_nat r1,A6,AA,AF,dlt hl]
 ·by_cases e:r=s
  ·subst e;have:p2.set r (r:Int)=p2:=BW (by simp) λj h1 h2=>by
    rw[BV];split
    ·rename_i e;subst e;have:=U2.pa_eq r1;rw[tr,A4 hl]at this;exact this.symm
    ·rfl
   rw[this];exact⟨h,B,U2⟩
  ·refine⟨λx=>if x=s then max (h s) (h r+1) else h x,B+1,?_,λj hj=> ?_,λj hj hne=> ?_,λj hj=> ?_,λj hj=> ?_⟩
   ·rw[Ap];exact U2.len
   ·rw[getSet hl];split
    ·exact⟨by omega,by omega⟩
    ·exact U2.rng j hj
   ·rw[pa_set hl]at hne⊢;by_cases e':j=r
    ·subst e';show(if j=s then _ else h j)<if (if j=j then s else pa p2 j)=s then _ else _
     rw[AC rfl,AC rfl,AK e];omega
    ·rw[AK e']at hne;have hjs:j≠s:=λh=>hne (by rw[h];exact t2);show(if j=s then _ else h j)<if (if j=r then s else pa p2 j)=s then max (h s) (h r+1) else h (if j=r then s else pa p2 j)
     rw[AK e',AK hjs];have:=U2.up j hj hne;split
     ·rename_i e2;rw[e2]at this;omega
     ·exact this
   ·have h1:=U2.top j hj;have h2:=U2.top r r1;show(if j=s then max (h s) (h r+1) else h j)<=B+1;split
    ·rename_i e';rw[e']at h1;omega
    ·omega
   ·rw[pa_set hl];by_cases e':j=r
    ·rw[AC e',e',<-q1,he,q2]
    ·rw[AK e'];exact U2.eq j hj
end
end Co
namespace M60
structure gX where(Q0:TN)(Q1:TS)(Q4:TM)(Q3:TI)
def g:Sg gX:=⟨[.agg cir4],[],λa b=>⟨a.1.1,a.1.2.1,a.1.2.2.1,a.1.2.2.2.1⟩,λx=>((x.Q0,(x.Q1,(x.Q4,(x.Q3,())))),()),λx=>()⟩
abbrev fY:=Nat×Nat×Nat×Nat×Nat×TI×TI
def f:Ft fY:=⟨some [1,2,3,0],cP,[.st [.sl 1 0 1,.slc 2 0 1] 1 0,oI,oI],λa b=>(b.1.1.1,b.1.1.2,b.1.2.1.1,b.1.2.1.2.1,b.1.2.1.2.2,b.2.1,b.2.2.1),λy=>(),λy=>(((y.1,y.2.1),((y.2.2.1,y.2.2.2.1,y.2.2.2.2.1),())),(y.2.2.2.2.2.1,(y.2.2.2.2.2.2,())))⟩
def cl:List CK:=[⟨103,M103.con,M103.con_ok⟩,ck M104.known,⟨62,M62.con,M62.con_ok⟩,⟨105,M105.con,M105.con_ok⟩,ck M106.known,ck M107.known]
structure p4X where(fan:List (List ((Int)×Int)))(m i n:Int)(l:List ((Int)×Int))(v:Int)(Q0:TN)(Q1:TS)(Q4:TM)(Q3:TI)(QK QE QM QI QJ:Nat)(fs ps:TI)
def p4:Pt p4X:=⟨[],⟨[(1,cP),(3,.c (.ptr 1 0)),(52,.c (.arr (.sl (.pair lI lI)))),(53,cI),(54,cI),(9,cI),(10,.c (.arr (.pair lI lI))),(11,cB)],[oC,.st [.sl 2 0 1,.slc 3 0 1] 1 0,oI,oI]⟩,λ((_,_,a,b,c,d,e,f,_),(g,h,i,j,_),((k,l),(m,n,o),_),p,q,_)=>⟨a,b,c,d,e,f,g,h,i,j,k,l,m,n,o,p,q⟩,λx=>(((),((),(x.fan,(x.m,(x.i,(x.n,(x.l,(x.v,())))))))),((x.Q0,(x.Q1,(x.Q4,(x.Q3,())))),(((x.QK,x.QE),((x.QM,x.QI,x.QJ),())),(x.fs,(x.ps,())))))⟩
structure q4X where(fan:List (List ((Int)×Int)))(m i:Int)(Q0:TN)(Q1:TS)(Q4:TM)(Q3:TI)(QK QE QM QI QJ:Nat)(fs ps:TI)
def q4:Pt q4X:=⟨[],⟨[(1,cP),(3,.c (.ptr 1 0)),(52,.c (.arr (.sl (.pair lI lI)))),(53,cI),(54,cI)],[oC,.st [.sl 2 0 1,.slc 3 0 1] 1 0,oI,oI]⟩,λ((_,_,a,b,c,_),(d,e,f,g,_),((h,i),(j,k,l),_),m,n,_)=>⟨a,b,c,d,e,f,g,h,i,j,k,l,m,n⟩,λx=>(((),((),(x.fan,(x.m,(x.i,()))))),((x.Q0,(x.Q1,(x.Q4,(x.Q3,())))),(((x.QK,x.QE),((x.QM,x.QI,x.QJ),())),(x.fs,(x.ps,())))))⟩
def s4(x:p4X):Option (p4X⊕q4X):=bif decide (x.v<=1) then bindO (M62.m ⟨x.n,-1,x.v,x.QK,x.QE,x.QM,x.QI,x.QJ,x.fs,x.ps⟩) λy=>bif inR 0 x.l.length then bif inR 0 x.l.length then bindO (M62.m ⟨(x.l[0]?.getD (0,0)).1,(x.l[0]?.getD (0,0)).2,x.v,x.QK,x.QE,x.QM,x.QI,x.QJ,x.fs,x.ps⟩) λy_1=>bindO (M105.m ⟨y.1,y_1.1,x.QK,x.QE,x.QM,x.QI,x.QJ,x.fs,x.ps⟩) λy=>some (inl ⟨x.fan,x.m,x.i,x.n,x.l,IntKind.u8.wrap (x.v+1),x.Q0,x.Q1,x.Q4,x.Q3,y.1,y.2.1,y.2.2.1,y.2.2.2.1,y.2.2.2.2.1,y.2.2.2.2.2.1,y.2.2.2.2.2.2⟩) else none else none else some (inr ⟨x.fan,x.m,x.i,x.Q0,x.Q1,x.Q4,x.Q3,x.QK,x.QE,x.QM,x.QI,x.QJ,x.fs,x.ps⟩)
def l4:QT:=Qa 0 p4 (.exit 8) q4 s4
def l4_ok  :QO prog 92 none 0 (C60.QR 4) l4:=lc cl 5 (λ_=>none) QX.nil
structure p3X where(fan:List (List ((Int)×Int)))(m i:Int)(Q0:TN)(Q1:TS)(Q4:TM)(Q3:TI)(QK QE QM QI QJ:Nat)(fs ps:TI)
def p3:Pt p3X:=⟨[],⟨[(1,cP),(3,.c (.ptr 1 0)),(52,.c (.arr (.sl (.pair lI lI)))),(53,cI),(54,cI)],[oC,.st [.sl 2 0 1,.slc 3 0 1] 1 0,oI,oI]⟩,λ((_,_,a,b,c,_),(d,e,f,g,_),((h,i),(j,k,l),_),m,n,_)=>⟨a,b,c,d,e,f,g,h,i,j,k,l,m,n⟩,λx=>(((),((),(x.fan,(x.m,(x.i,()))))),((x.Q0,(x.Q1,(x.Q4,(x.Q3,())))),(((x.QK,x.QE),((x.QM,x.QI,x.QJ),())),(x.fs,(x.ps,())))))⟩
structure q3X where(QK QE QM QI QJ:Nat)(fs ps:TI)
def q3:Pt q3X:=⟨[],⟨[(3,.c (.ptr 1 0))],[.st [jk,jk,jk,jk] 1 0,.st [.sl 2 0 1,.slc 3 0 1] 1 0,oI,oI]⟩,λ(_,_,((a,b),(c,d,e),_),f,g,_)=>⟨a,b,c,d,e,f,g⟩,λx=>(((),()),(((),((),((),((),())))),(((x.QK,x.QE),((x.QM,x.QI,x.QJ),())),(x.fs,(x.ps,())))))⟩
def s3(x:p3X):Option (p3X⊕q3X):=bif decide (x.i<x.m) then bif inR x.i x.fan.length then bindO (bif (↑(List.length (x.fan[x.i.toNat]?.getD [])):Int)==1 then M107.m ⟨x.Q3,x.i⟩ else some false) λy=>bif bif (↑(List.length (x.fan[x.i.toNat]?.getD [])):Int)==1 then !y else false then bindO (iter s4 ⟨x.fan,x.m,x.i,x.i,x.fan[x.i.toNat]?.getD [],0,x.Q0,x.Q1,x.Q4,x.Q3,x.QK,x.QE,x.QM,x.QI,x.QJ,x.fs,x.ps⟩) λy=>some (inl ⟨y.fan,y.m,i64.wrap (y.i+1),y.Q0,y.Q1,y.Q4,y.Q3,y.QK,y.QE,y.QM,y.QI,y.QJ,y.fs,y.ps⟩) else some (inl ⟨x.fan,x.m,i64.wrap (x.i+1),x.Q0,x.Q1,x.Q4,x.Q3,x.QK,x.QE,x.QM,x.QI,x.QJ,x.fs,x.ps⟩) else none else some (inr ⟨x.QK,x.QE,x.QM,x.QI,x.QJ,x.fs,x.ps⟩)
def l3:QT:=Qa 0 p3 (.exit 6) q3 s3
def l3_ok  :QO prog 92 none 0 (C60.QR 3) l3:=lc cl 4 (J2 [(4,l4)]) (ac 4 l4_ok QX.nil)
structure p2X where(n:Int)(ns:TN)(m i:Int)(rs:List ((Int)×Int))(rm ri pm pi:Int)(Q0:TN)(Q1:TS)(Q4:TM)(Q3:TI)(QK QE QM QI QJ:Nat)(fs ps:TI)(kind:Int)(inn:TI)(mem bit rp ro:Int)
def p2:Pt p2X:=⟨[],⟨[(1,cP),(3,.c (.ptr 1 0)),(4,cI),(15,.c (aN)),(16,cI),(17,cI),(5,.c (.ptr 4 0)),(7,.c (.ptr 5 0)),(23,.c (.arr (.pair lB lB))),(24,cI),(25,cI),(31,cI),(32,cI)],[oC,.st [.sl 2 0 1,.slc 3 0 1] 1 0,oI,oI,.st [iB,aI,iI,iI] 1 0,.st [iB,iB] 1 0]⟩,λ((_,_,a,b,c,d,_,_,e,f,g,h,i,_),(j,k,l,m,_),((n,o),(p,q,r),_),s,t,(u,w,x,y,_),(z,A,_),_)=>⟨a,b,c,d,e,f,g,h,i,j,k,l,m,n,o,p,q,r,s,t,u,w,x,y,z,A⟩,λx=>(((),((),(x.n,(x.ns,(x.m,(x.i,((),((),(x.rs,(x.rm,(x.ri,(x.pm,(x.pi,()))))))))))))),((x.Q0,(x.Q1,(x.Q4,(x.Q3,())))),(((x.QK,x.QE),((x.QM,x.QI,x.QJ),())),(x.fs,(x.ps,((x.kind,(x.inn,(x.mem,(x.bit,())))),((x.rp,(x.ro,())),())))))))⟩
structure q2X where(n:Int)(ns:TN)(m i:Int)(rs:List ((Int)×Int))(rm ri:Int)(Q0:TN)(Q1:TS)(Q4:TM)(Q3:TI)(QK QE QM QI QJ:Nat)(fs ps:TI)(kind:Int)(inn:TI)(mem bit rp ro:Int)
def q2:Pt q2X:=⟨[],⟨[(1,cP),(3,.c (.ptr 1 0)),(4,cI),(15,.c (aN)),(16,cI),(17,cI),(5,.c (.ptr 4 0)),(23,.c (.arr (.pair lB lB))),(24,cI),(25,cI)],[oC,.st [.sl 2 0 1,.slc 3 0 1] 1 0,oI,oI,.st [iB,aI,iI,iI] 1 0,.st [iB,iB] 1 0]⟩,λ((_,_,a,b,c,d,_,e,f,g,_),(h,i,j,k,_),((l,m),(n,o,p),_),q,r,(s,t,u,w,_),(x,y,_),_)=>⟨a,b,c,d,e,f,g,h,i,j,k,l,m,n,o,p,q,r,s,t,u,w,x,y⟩,λx=>(((),((),(x.n,(x.ns,(x.m,(x.i,((),(x.rs,(x.rm,(x.ri,())))))))))),((x.Q0,(x.Q1,(x.Q4,(x.Q3,())))),(((x.QK,x.QE),((x.QM,x.QI,x.QJ),())),(x.fs,(x.ps,((x.kind,(x.inn,(x.mem,(x.bit,())))),((x.rp,(x.ro,())),())))))))⟩
def s2(x:p2X):Option (p2X⊕q2X):=bif decide (x.pi<x.pm) then bindO (M62.m ⟨x.n,x.pi,x.rp,x.QK,x.QE,x.QM,x.QI,x.QJ,x.fs,x.ps⟩) λy=>bindO (M62.m ⟨x.n,-1,x.ro,x.QK,x.QE,x.QM,x.QI,x.QJ,x.fs,x.ps⟩) λy_1=>bindO (M105.m ⟨y.1,y_1.1,x.QK,x.QE,x.QM,x.QI,x.QJ,x.fs,x.ps⟩) λy=>some (inl ⟨x.n,x.ns,x.m,x.i,x.rs,x.rm,x.ri,x.pm,i64.wrap (x.pi+1),x.Q0,x.Q1,x.Q4,x.Q3,y.1,y.2.1,y.2.2.1,y.2.2.2.1,y.2.2.2.2.1,y.2.2.2.2.2.1,y.2.2.2.2.2.2,x.kind,x.inn,x.mem,x.bit,x.rp,x.ro⟩) else some (inr ⟨x.n,x.ns,x.m,x.i,x.rs,x.rm,x.ri,x.Q0,x.Q1,x.Q4,x.Q3,x.QK,x.QE,x.QM,x.QI,x.QJ,x.fs,x.ps,x.kind,x.inn,x.mem,x.bit,x.rp,x.ro⟩)
def l2:QT:=Qa 0 p2 (.exit 4) q2 s2
def l2_ok  :QO prog 92 none 0 (C60.QR 2) l2:=lc cl 3 (J2 [(3,l3),(4,l4)]) QX.nil
structure p1X where(n:Int)(ns:TN)(m i:Int)(rs:List ((Int)×Int))(rm ri:Int)(Q0:TN)(Q1:TS)(Q4:TM)(Q3:TI)(QK QE QM QI QJ:Nat)(fs ps:TI)(kind:Int)(inn:TI)(mem bit:Int)
def p1:Pt p1X:=⟨[],⟨[(1,cP),(3,.c (.ptr 1 0)),(4,cI),(15,.c (aN)),(16,cI),(17,cI),(5,.c (.ptr 4 0)),(23,.c (.arr (.pair lB lB))),(24,cI),(25,cI)],[oC,.st [.sl 2 0 1,.slc 3 0 1] 1 0,oI,oI,.st [iB,aI,iI,iI] 1 0]⟩,λ((_,_,a,b,c,d,_,e,f,g,_),(h,i,j,k,_),((l,m),(n,o,p),_),q,r,(s,t,u,w,_),_)=>⟨a,b,c,d,e,f,g,h,i,j,k,l,m,n,o,p,q,r,s,t,u,w⟩,λx=>(((),((),(x.n,(x.ns,(x.m,(x.i,((),(x.rs,(x.rm,(x.ri,())))))))))),((x.Q0,(x.Q1,(x.Q4,(x.Q3,())))),(((x.QK,x.QE),((x.QM,x.QI,x.QJ),())),(x.fs,(x.ps,((x.kind,(x.inn,(x.mem,(x.bit,())))),()))))))⟩
structure q1X where(n:Int)(ns:TN)(m i:Int)(Q0:TN)(Q1:TS)(Q4:TM)(Q3:TI)(QK QE QM QI QJ:Nat)(fs ps:TI)(kind:Int)(inn:TI)(mem bit:Int)
def q1:Pt q1X:=⟨[],⟨[(1,cP),(3,.c (.ptr 1 0)),(4,cI),(15,.c (aN)),(16,cI),(17,cI)],[oC,.st [.sl 2 0 1,.slc 3 0 1] 1 0,oI,oI,.st [iB,aI,iI,iI] 1 0]⟩,λ((_,_,a,b,c,d,_),(e,f,g,h,_),((i,j),(k,l,m),_),n,o,(p,q,r,s,_),_)=>⟨a,b,c,d,e,f,g,h,i,j,k,l,m,n,o,p,q,r,s⟩,λx=>(((),((),(x.n,(x.ns,(x.m,(x.i,())))))),((x.Q0,(x.Q1,(x.Q4,(x.Q3,())))),(((x.QK,x.QE),((x.QM,x.QI,x.QJ),())),(x.fs,(x.ps,((x.kind,(x.inn,(x.mem,(x.bit,())))),()))))))⟩
def s1(x:p1X):Option (p1X⊕q1X):=bif decide (x.ri<x.rm) then bif inR x.ri x.rs.length then bindO (iter s2 ⟨x.n,x.ns,x.m,x.i,x.rs,x.rm,x.ri,(x.inn.length:Int),0,x.Q0,x.Q1,x.Q4,x.Q3,x.QK,x.QE,x.QM,x.QI,x.QJ,x.fs,x.ps,x.kind,x.inn,x.mem,x.bit,(x.rs[x.ri.toNat]?.getD (0,0)).1,(x.rs[x.ri.toNat]?.getD (0,0)).2⟩) λy=>some (inl ⟨y.n,y.ns,y.m,y.i,y.rs,y.rm,i64.wrap (y.ri+1),y.Q0,y.Q1,y.Q4,y.Q3,y.QK,y.QE,y.QM,y.QI,y.QJ,y.fs,y.ps,y.kind,y.inn,y.mem,y.bit⟩) else none else some (inr ⟨x.n,x.ns,x.m,x.i,x.Q0,x.Q1,x.Q4,x.Q3,x.QK,x.QE,x.QM,x.QI,x.QJ,x.fs,x.ps,x.kind,x.inn,x.mem,x.bit⟩)
def l1:QT:=Qa 0 p1 (.exit 2) q1 s1
def l1_ok  :QO prog 92 none 0 (C60.QR 1) l1:=lc cl 2 (J2 [(2,l2),(3,l3),(4,l4)]) (ac 2 l2_ok QX.nil)
structure p0X where(ns:TN)(m i:Int)(Q0:TN)(Q1:TS)(Q4:TM)(Q3:TI)(QK QE QM QI QJ:Nat)(fs ps:TI)
def p0:Pt p0X:=⟨[],⟨[(1,cP),(3,.c (.ptr 1 0)),(15,.c (aN)),(16,cI),(17,cI)],[oC,.st [.sl 2 0 1,.slc 3 0 1] 1 0,oI,oI]⟩,λ((_,_,a,b,c,_),(d,e,f,g,_),((h,i),(j,k,l),_),m,n,_)=>⟨a,b,c,d,e,f,g,h,i,j,k,l,m,n⟩,λx=>(((),((),(x.ns,(x.m,(x.i,()))))),((x.Q0,(x.Q1,(x.Q4,(x.Q3,())))),(((x.QK,x.QE),((x.QM,x.QI,x.QJ),())),(x.fs,(x.ps,())))))⟩
structure q0X where(Q0:TN)(Q1:TS)(Q4:TM)(Q3:TI)(QK QE QM QI QJ:Nat)(fs ps:TI)
def q0:Pt q0X:=⟨[],⟨[(1,cP),(3,.c (.ptr 1 0))],[oC,.st [.sl 2 0 1,.slc 3 0 1] 1 0,oI,oI]⟩,λ(_,(a,b,c,d,_),((e,f),(g,h,i),_),j,k,_)=>⟨a,b,c,d,e,f,g,h,i,j,k⟩,λx=>(((),((),())),((x.Q0,(x.Q1,(x.Q4,(x.Q3,())))),(((x.QK,x.QE),((x.QM,x.QI,x.QJ),())),(x.fs,(x.ps,())))))⟩
def s0(x:p0X):Option (p0X⊕q0X):=bif decide (x.i<x.m) then bif inR x.i x.ns.length then bindO (M104.m ⟨(x.ns[x.i.toNat]?.getD (0,[],0,0)).1,(x.ns[x.i.toNat]?.getD (0,[],0,0)).2.1,(x.ns[x.i.toNat]?.getD (0,[],0,0)).2.2.1,(x.ns[x.i.toNat]?.getD (0,[],0,0)).2.2.2⟩) λy=>bindO (iter s1 ⟨x.i,x.ns,x.m,x.i,y,(↑(List.length y):Int),0,x.Q0,x.Q1,x.Q4,x.Q3,x.QK,x.QE,x.QM,x.QI,x.QJ,x.fs,x.ps,(x.ns[x.i.toNat]?.getD (0,[],0,0)).1,(x.ns[x.i.toNat]?.getD (0,[],0,0)).2.1,(x.ns[x.i.toNat]?.getD (0,[],0,0)).2.2.1,(x.ns[x.i.toNat]?.getD (0,[],0,0)).2.2.2⟩) λy=>some (inl ⟨y.ns,y.m,i64.wrap (y.i+1),y.Q0,y.Q1,y.Q4,y.Q3,y.QK,y.QE,y.QM,y.QI,y.QJ,y.fs,y.ps⟩) else none else some (inr ⟨x.Q0,x.Q1,x.Q4,x.Q3,x.QK,x.QE,x.QM,x.QI,x.QJ,x.fs,x.ps⟩)
def l0:QT:=Qa 0 p0 (.exit 0) q0 s0
def l0_ok  :QO prog 92 none 0 (C60.QR 0) l0:=lc cl 1 (J2 [(1,l1),(2,l2),(3,l3),(4,l4)]) (ac 1 l1_ok QX.nil)
def m(x:gX):Option fY:=bindO (M103.m ⟨x.Q0,x.Q1,x.Q4,x.Q3⟩) λy=>bindO (iter s0 ⟨x.Q0,(x.Q0.length:Int),0,x.Q0,x.Q1,x.Q4,x.Q3,y.1,y.2.1,y.2.2.1,y.2.2.2.1,y.2.2.2.2.1,y.2.2.2.2.2.1,y.2.2.2.2.2.2⟩) λy=>bindO (M106.m ⟨y.Q0,y.Q1,y.Q4,y.Q3⟩) λy_1=>bindO (iter s3 ⟨y_1,(↑(List.length y_1):Int),0,y.Q0,y.Q1,y.Q4,y.Q3,y.QK,y.QE,y.QM,y.QI,y.QJ,y.fs,y.ps⟩) λy=>some (y.QK,y.QE,y.QM,y.QI,y.QJ,y.fs,y.ps)
def known:QQ prog 60 g f m:=
 kc cl s60 (J2 [(0,l0),(1,l1),(2,l2),(3,l3),(4,l4)]) (ac 0 l0_ok (ac 3 l3_ok QX.nil))
end M60
namespace Co
def fst(N:NodeL):Nat->Nat
 |0=>0
 |i+1=>fst N i+2*((pn N i).length+1)
def num(N:NodeL)(i p v:Nat):Nat:=fst N i+2*p+v
def fsL(N:NodeL)(i:Nat):List Int:=(List.range i).map λk=>(fst N k:Int)
def fst_mono {N : NodeL} {i j : Nat} (h : i <= j) : fst N i <= fst N j := by
 induction j with
 | zero => have : i = 0 := by omega
           rw [this]; exact A5 _
 | succ j ih =>
   by_cases e : i = j + 1
   · rw [e]; exact A5 _
   · have := ih (by omega)
     have h2 : fst N (j + 1) = fst N j + 2 * ((pn N j).length + 1) := rfl;omega
def num_lt{N:NodeL}{i p v:Nat}(hi:i<N.length)(hp:p<=(pn N i).length)(hv:v<=1):num N i p v<fst N N.length:=by have h1:=fst_mono (N:=N) (i:=i+1) (j:=N.length) (by omega);have h2:fst N (i+1)=fst N i+2*((pn N i).length+1):=rfl;unfold num;omega
def pinsOf_mem(a i:Nat):∀(l:List Int) (k:Nat) {e:Int×Int},e∈pinsOf a i l k->∃q:Nat,e=((i:Int),((k+q:Nat):Int))/\l[q]? =some (a:Int)
 |[],k,e,h=>by cases h
 |b::l,k,e,h=>by
  have step:e∈pinsOf a i l (k+1)->∃q:Nat,e=((i:Int),((k+q:Nat):Int))/\(b::l)[q]? =some (a:Int):=λh=>(by obtain⟨q,h1,h2⟩:=pinsOf_mem a i l (k+1) h;exact⟨q+1,by rw[h1];congr 2;omega,by simpa using h2⟩);unfold pinsOf at h;split at h
  ·rename_i hb;rcases AT.1 h with h|h
   ·exact⟨0,by rw[h];simp,by simp[hb]⟩
   ·exact step h
  ·exact step h
def mem_pinsOf(a i:Nat):∀(l:List Int) (k q:Nat),l[q]? =some (a:Int)->((i:Int),((k+q:Nat):Int))∈pinsOf a i l k
 |[],k,q,h=>by simp at h
 |b::l,k,0,h=>by have h:b=(a:Int):=(by simpa using h);unfold pinsOf;rw[AC h];exact B4 ..
 |b::l,k,q+1,h=>by
  have:=mem_pinsOf a i l (k+1) q (by simpa using h);rw[show k+1+q=k+(q+1) by omega]at this;unfold pinsOf;split
  ·exact Bv _ this
  ·exact this
def readers_mem(a:Nat):∀(r:NodeL) (i:Nat) {e:Int×Int},e∈readers a r i->∃j q:Nat,j<r.length/\e=(((i+j:Nat):Int),(q:Int))/\(pn r j)[q]? =some (a:Int)
 |[],i,e,h=>by cases h
 |x::r,i,e,h=>by
  unfold readers at h;rcases Ak.1 h with h|h
  ·obtain⟨q,h1,h2⟩:=pinsOf_mem a i _ _ h;exact⟨0,q,by simp,by rw[h1];simp,h2⟩
  ·obtain⟨j,q,h1,h2,h3⟩:=readers_mem a r (i+1) h;exact⟨j+1,q,by simp;omega,by rw[h2];congr 2;omega,h3⟩
def mem_readers(a:Nat):∀(r:NodeL) (i j q:Nat),j<r.length->(pn r j)[q]? =some (a:Int)->(((i+j:Nat):Int),(q:Int))∈readers a r i
 |[],i,j,q,h,_=>by cases h
 |x::r,i,0,q,h,hq=>by unfold readers;refine B0 _ ?_;have:=mem_pinsOf a i x.2.1 0 q hq;rwa [AF]at this
 |x::r,i,j+1,q,h,hq=>by unfold readers;refine B7 _ ?_;have:=mem_readers a r (i+1) j q (by simpa using h) hq;rwa [show i+1+j=i+(j+1) by omega]at this
structure Eqs{X:Type}(ρ:Nat->X)(N:NodeL)(C:List Int):Prop where
 gate:∀i p r,i<N.length->Rule (kd N i) (pn N i).length r->p<(pn N i).length->ρ (num N i (p+1) r.1.toNat)=ρ (num N i 0 r.2.toNat)
 stem:∀n m q v:Nat,n<N.length->readers n N 0=[((m:Int),(q:Int))]->(n:Int)∉C->v<=1->ρ (num N n 0 v)=ρ (num N m (q+1) v)
def Rule.r01{k:Int}{len:Nat}{r:Int×Int}(h:Rule k len r):(r.1=0\/r.1=1)/\(r.2=0\/r.2=1):=by rcases h with ⟨_,rfl|rfl⟩|⟨_,rfl|rfl⟩|⟨_,rfl⟩|⟨_,rfl⟩|⟨_,rfl⟩|⟨_,rfl⟩<;>simp
def m104(k:Int)(p:List Int)(a b:Int):∃rs,M104.m ⟨k,p,a,b⟩=some rs/\rs.length<=2/\∀r∈rs,Rule k p.length r:=by
 have one:∀x:Int×Int,∀r∈[x],r=x:=λx r hr=>Ae.1 hr;have two:∀x y:Int×Int,∀r∈[x,y],r=x\/r=y:=λx y r hr=>by simpa using hr
 unfold M104.m;by_cases e3:k=3
 ·subst e3;exact⟨_,rfl,by simp,λr hr=>.inl ⟨.inl rfl,two _ _ r hr⟩⟩
 ·by_cases e13:k=13
  ·subst e13;by_cases hp:p.length=1
   ·rw[hp];exact⟨_,rfl,by simp,λr hr=>.inl ⟨.inr ⟨rfl,rfl⟩,two _ _ r hr⟩⟩
   ·have:(((p.length:Nat):Int)==1)=false:=Ag.2 (by omega);simp only[this];exact⟨[],rfl,by simp,λr hr=>by cases hr⟩
  ·by_cases e4:k=4
   ·subst e4;exact⟨_,rfl,by simp,λr hr=>.inr (.inl ⟨rfl,two _ _ r hr⟩)⟩
   ·have c3:(k==3)=false:=Ag.2 e3;have c13:(k==13)=false:=Ag.2 e13;have c4:(k==4)=false:=Ag.2 e4;simp only[c3,c13,c4,A7];unfold M138.m;by_cases e5:k=5
    ·subst e5;exact⟨_,rfl,by simp,λr hr=>.inr (.inr (.inl ⟨rfl,one _ r hr⟩))⟩
    ·by_cases e6:k=6
     ·subst e6;exact⟨_,rfl,by simp,λr hr=>.inr (.inr (.inr (.inl ⟨rfl,one _ r hr⟩)))⟩
     ·by_cases e7:k=7
      ·subst e7;exact⟨_,rfl,by simp,λr hr=>.inr (.inr (.inr (.inr (.inl ⟨rfl,one _ r hr⟩))))⟩
      ·by_cases e8:k=8
       ·subst e8;exact⟨_,rfl,by simp,λr hr=>.inr (.inr (.inr (.inr (.inr ⟨rfl,one _ r hr⟩))))⟩
       ·have c5:(k==5)=false:=Ag.2 e5;have c6:(k==6)=false:=Ag.2 e6;have c7:(k==7)=false:=Ag.2 e7;have c8:(k==8)=false:=Ag.2 e8;simp only[c5,c6,c7,c8,A7,bindO];exact⟨[],rfl,by simp,λr hr=>by cases hr⟩
def m107{l:List Int}{v:Int}(hl:l.length<=1000000):M107.m ⟨l,v⟩=some (l.any (v==·)):=by
 have key:=iter_any (step:=M140.s0) (λi=>⟨l,v,(l.length:Int),(i:Int)⟩) l (v==·) (λi=>.inr ⟨(i:Int)⟩) (y:=.inl ()) (λi hi=>by
  have c1:=ilt (a:=(i:Int)) (b:=(l.length:Int)) (by omega);unfold M140.s0;simp only[c1,inR_nat hi,A6,getD_at hi,suc (i:=i) (by omega)]
  cases v==l[i] with
  |true=>rfl
  |false=>rfl) (by
  have c1:=inlt (a:=(l.length:Int)) (b:=(l.length:Int)) (by omega);unfold M140.s0;simp only[c1,A7])
 unfold M107.m M140.m;rcases key with ⟨h1,i,h2⟩|⟨h1,h2⟩
 ·have h2':iter M140.s0 { s:=l,v:=v,n:=(l.length:Int),i:=0 }=some (.inr ⟨(i:Int)⟩):=h2;have c:decide ((i:Int)>=0)=true:=AB (by omega);simp only[h2',bindO,sumC,c,h1]
 ·have h2':iter M140.s0 { s:=l,v:=v,n:=(l.length:Int),i:=0 }=some (.inl ()):=h2;simp only[h2',bindO,sumC,h1];rfl
section
variable {N:NodeL}{A:List (List UInt8)}{C:List Int}
def fst_le(h:Ck N A C):∀i,i<=N.length->fst N i<=34*i
 |0,_=>A5 _
 |i+1,hi=>by have h1:=fst_le h i (by omega);have h2:=(h.pins (i:=(i:Int)) ⟨by omega,by omega⟩).1;rw[AA]at h2;have h3:fst N (i+1)=fst N i+2*((pn N i).length+1):=rfl;omega
def fst_646(h:Ck N A C){i:Nat}(hi:i<=N.length):fst N i<=646:=by have:=fst_le h i hi;have:=h.few;omega
def fsL_at{i k:Nat}(hk:k<i):(fsL N i)[k]?.getD 0=(fst N k:Int):=by simp[fsL,hk]
def fsL_len{i:Nat}:(fsL N i).length=i:=by simp[fsL]
def fsL_succ{i:Nat}:fsL N i++[(fst N i:Int)]=fsL N (i+1):=by simp[fsL,Br]
def m103(h:Ck N A C):M103.m ⟨N,A,[],C⟩=some (0,N.length,0,fst N N.length,fst N N.length,fsL N N.length,nums (fst N N.length)):=by
 have hN:=h.few;have hT:=fst_646 h (A5 _)
 have k0:=iter_count (step:=M103.s0) (λi=>{ n:=(fst N i:Int),ns:=N,m:=(N.length:Int),i:=(i:Int),Q0:=N,Q1:=A,Q4:=[],Q3:=C,QK:=0,QE:=i,fs:=fsL N i }) (y:={ n:=(fst N N.length:Int),QK:=0,QE:=N.length,fs:=fsL N N.length }) N.length (λi hi=>by
  have c1:=ilt (a:=(i:Int)) (b:=(N.length:Int)) (by omega);have e5:(N[i]?.getD (0,[],0,0)).2.1=pn N i:=rfl;have h1:=fst_646 h (i:=i+1) (by omega);have h3:fst N (i+1)=fst N i+2*((pn N i).length+1):=rfl;have w0:i64.wrap (((pn N i).length:Int)+1)=((pn N i).length:Int)+1:=w64 (by omega) (by omega);have w1:i64.wrap (2*(((pn N i).length:Int)+1))=2*(((pn N i).length:Int)+1):=w64 (by omega) (by omega);have w2:i64.wrap ((fst N i:Int)+2*(((pn N i).length:Int)+1))=(fst N (i+1):Int):=(by rw[w64 (by omega) (by omega),h3];omega);unfold M103.s0;simp only[c1,inR_nat hi,A6,AA,e5,eqN_of rfl,eqN_of (fsL_len (N:=N) (i:=i)),room (n:=i+1) (b:=8) (by omega) (by omega),AH,w0,w1,w2,suc (i:=i) (by omega),fsL_succ]) (by
  have c1:=inlt (a:=(N.length:Int)) (b:=(N.length:Int)) (by omega);unfold M103.s0;simp only[c1,A7])
 generalize fst N N.length=T at*
 have e1:numi T 0=List.replicate T 0:=BW (by simp[numi]) λk h1 h2=>by simp[numi]
 have e2:numi T T=nums T:=by unfold numi nums;refine Ai λk hk=> ?_;have:=Bg.1 hk;simp[this]
 have hset:∀i,i<T->(numi T i).set i (i:Int)=numi T (i+1):=λi hi=>by
  refine BW (by simp[numi]) λk h1 h2=> ?_;rw[BV];simp only[numi,AP,C4];by_cases e:i=k
  ·subst e;simp
  ·rw[AK e];by_cases e2:k<i
   ·rw[AC e2,AC (by omega)]
   ·rw[AK e2,AK (by omega)]
 have k1:=iter_count (step:=M103.s1) (λi=>{ m:=(T:Int),i:=(i:Int),QK:=0,QE:=N.length,QM:=0,QI:=T,QJ:=T,fs:=fsL N N.length,ps:=numi T i }) (y:={ QK:=0,QE:=N.length,QM:=0,QI:=T,QJ:=T,fs:=fsL N N.length,ps:=numi T T }) T (λi hi=>by
  have c1:=ilt (a:=(i:Int)) (b:=(T:Int)) (by omega);have hl:i<(numi T i).length:=(by simpa [numi] using hi);unfold M103.s1;simp only[c1,inR_nat hi,A6,AA,AF,dlt hl,suc (i:=i) (by omega),hset i hi]) (by
  have c1:=inlt (a:=(T:Int)) (b:=(T:Int)) (by omega);unfold M103.s1;simp only[c1,A7])
 rw[e1,e2]at k1;have k0':iter M103.s0 { n:=0,ns:=N,m:=(N.length:Int),i:=0,Q0:=N,Q1:=A,Q4:=[],Q3:=C,QK:=0,QE:=0,fs:=[] }=_:=k0;have c1:decide (0<=(T:Int))=true:=AB (by omega);have c2:decide ((T:Int)<=(T:Int))=true:=AB (by omega);have c3:decide ((T:Int)*8<=281474976710656)=true:=AB (by omega);have c4:decide ((T:Int)<=9223372036854775807)=true:=AB (by omega);have k1':iter M103.s1 { m:=(T:Int),i:=0,QK:=0,QE:=N.length,QM:=0,QI:=T,QJ:=T,fs:=fsL N N.length,ps:=List.replicate T 0 }=_:=k1;unfold M103.m;simp only[k0',bindO,c1,c2,c3,c4,AH,A6,AA,k1']
def m62(h:Ck N A C){i p v T T':Nat}(hi:i<N.length)(hp:p<=(pn N i).length)(hv:v<=1){ps:List Int}{pin:Int}(hpin:pin=(p:Int) - 1):
  M62.m ⟨(i:Int),pin,(v:Int),0,N.length,0,T,T',fsL N N.length,ps⟩=some ((num N i p v:Int),0,N.length,0,T,T',fsL N N.length,ps):=by
 have hl:i<(fsL N N.length).length:=by rw[fsL_len];exact hi
 have h1:=num_lt (v:=v) hi hp hv;have h2:=fst_646 h (A5 _);have hn:num N i p v=fst N i+2*p+v:=rfl;have w1:i64.wrap (pin+1)=(p:Int):=by rw[w64 (by omega) (by omega)];omega
 have w2:i64.wrap (2*(p:Int))=2*(p:Int):=w64 (by omega) (by omega);have w3:i64.wrap ((fst N i:Int)+2*(p:Int))=(fst N i:Int)+2*(p:Int):=w64 (by omega) (by omega);have w4:i64.wrap (v:Int)=(v:Int):=w64 (by omega) (by omega);have w5:i64.wrap ((fst N i:Int)+2*(p:Int)+(v:Int))=(num N i p v:Int):=by rw[w64 (by omega) (by omega),hn];omega
 unfold M62.m;simp only[inR_nat hi,A6,AA,AF,dlt hl,fsL_at hi,w1,w2,w3,w4,w5]
variable {X:Type}{ρ:Nat->X}
def nums_uf{n:Nat}:Uf ρ n (nums n):=by
 have e:∀i,i<n->(nums n)[i]?.getD 0=(i:Int):=λi hi=>by simp[nums,hi]
 refine⟨λ_=>0,0,nums_len,λi hi=>by rw[e i hi];exact⟨by omega,by omega⟩,λi hi hne=> ?_,λ_ _=>A5 _,λi hi=> ?_⟩
 ·exact absurd (by unfold pa;rw[e i hi,AA]) hne
 ·unfold pa;rw[e i hi,AA]
abbrev pS2(N:NodeL)(A:List (List UInt8))(C:List Int)(i:Nat)(rs:List (Int×Int))(ri pi:Nat)(r:Int×Int)(ps:List Int):M60.p2X:={ n:=(i:Int),ns:=N,m:=(N.length:Int),i:=(i:Int),rs:=rs,rm:=(rs.length:Int),ri:=(ri:Int),pm:=((pn N i).length:Int),pi:=(pi:Int),Q0:=N,Q1:=A,Q4:=[],Q3:=C,QK:=0,QE:=N.length,QM:=0,QI:=fst N N.length,QJ:=fst N N.length,fs:=fsL N N.length,ps:=ps,kind:=kd N (i:Int),inn:=pn N i,mem:=(N[i]?.getD (0,[],0,0)).2.2.1,bit:=(N[i]?.getD (0,[],0,0)).2.2.2,rp:=r.1,ro:=r.2 }
abbrev qS2(N:NodeL)(A:List (List UInt8))(C:List Int)(i:Nat)(rs:List (Int×Int))(ri:Nat)(r:Int×Int)(ps:List Int):M60.q2X:={ n:=(i:Int),ns:=N,m:=(N.length:Int),i:=(i:Int),rs:=rs,rm:=(rs.length:Int),ri:=(ri:Int),Q0:=N,Q1:=A,Q4:=[],Q3:=C,QK:=0,QE:=N.length,QM:=0,QI:=fst N N.length,QJ:=fst N N.length,fs:=fsL N N.length,ps:=ps,kind:=kd N (i:Int),inn:=pn N i,mem:=(N[i]?.getD (0,[],0,0)).2.2.1,bit:=(N[i]?.getD (0,[],0,0)).2.2.2,rp:=r.1,ro:=r.2 }
abbrev pS1(N:NodeL)(A:List (List UInt8))(C:List Int)(i:Nat)(rs:List (Int×Int))(ri:Nat)(ps:List Int):M60.p1X:={ n:=(i:Int),ns:=N,m:=(N.length:Int),i:=(i:Int),rs:=rs,rm:=(rs.length:Int),ri:=(ri:Int),Q0:=N,Q1:=A,Q4:=[],Q3:=C,QK:=0,QE:=N.length,QM:=0,QI:=fst N N.length,QJ:=fst N N.length,fs:=fsL N N.length,ps:=ps,kind:=kd N (i:Int),inn:=pn N i,mem:=(N[i]?.getD (0,[],0,0)).2.2.1,bit:=(N[i]?.getD (0,[],0,0)).2.2.2 }
abbrev qS1(N:NodeL)(A:List (List UInt8))(C:List Int)(i:Nat)(ps:List Int):M60.q1X:={ n:=(i:Int),ns:=N,m:=(N.length:Int),i:=(i:Int),Q0:=N,Q1:=A,Q4:=[],Q3:=C,QK:=0,QE:=N.length,QM:=0,QI:=fst N N.length,QJ:=fst N N.length,fs:=fsL N N.length,ps:=ps,kind:=kd N (i:Int),inn:=pn N i,mem:=(N[i]?.getD (0,[],0,0)).2.2.1,bit:=(N[i]?.getD (0,[],0,0)).2.2.2 }
abbrev pS0(N:NodeL)(A:List (List UInt8))(C:List Int)(i:Nat)(ps:List Int):M60.p0X:={ ns:=N,m:=(N.length:Int),i:=(i:Int),Q0:=N,Q1:=A,Q4:=[],Q3:=C,QK:=0,QE:=N.length,QM:=0,QI:=fst N N.length,QJ:=fst N N.length,fs:=fsL N N.length,ps:=ps }
abbrev qS0(N:NodeL)(A:List (List UInt8))(C:List Int)(ps:List Int):M60.q0X:={ Q0:=N,Q1:=A,Q4:=[],Q3:=C,QK:=0,QE:=N.length,QM:=0,QI:=fst N N.length,QJ:=fst N N.length,fs:=fsL N N.length,ps:=ps }
abbrev pS3(N:NodeL)(A:List (List UInt8))(C:List Int)(fan:List (List (Int×Int)))(i:Nat)(ps:List Int):M60.p3X:={ fan:=fan,m:=(N.length:Int),i:=(i:Int),Q0:=N,Q1:=A,Q4:=[],Q3:=C,QK:=0,QE:=N.length,QM:=0,QI:=fst N N.length,QJ:=fst N N.length,fs:=fsL N N.length,ps:=ps }
abbrev qS3(N:NodeL)(ps:List Int):M60.q3X:={ QK:=0,QE:=N.length,QM:=0,QI:=fst N N.length,QJ:=fst N N.length,fs:=fsL N N.length,ps:=ps }
abbrev pS4(N:NodeL)(A:List (List UInt8))(C:List Int)(fan:List (List (Int×Int)))(i:Nat)(l:List (Int×Int))(v:Nat)(ps:List Int):M60.p4X:={ fan:=fan,m:=(N.length:Int),i:=(i:Int),n:=(i:Int),l:=l,v:=(v:Int),Q0:=N,Q1:=A,Q4:=[],Q3:=C,QK:=0,QE:=N.length,QM:=0,QI:=fst N N.length,QJ:=fst N N.length,fs:=fsL N N.length,ps:=ps }
abbrev qS4(N:NodeL)(A:List (List UInt8))(C:List Int)(fan:List (List (Int×Int)))(i:Nat)(ps:List Int):M60.q4X:={ fan:=fan,m:=(N.length:Int),i:=(i:Int),Q0:=N,Q1:=A,Q4:=[],Q3:=C,QK:=0,QE:=N.length,QM:=0,QI:=fst N N.length,QJ:=fst N N.length,fs:=fsL N N.length,ps:=ps }
def m60_2(h:Ck N A C)(hE:Eqs ρ N C){i:Nat}(hi:i<N.length){rs:List (Int×Int)}{ri:Nat}{r:Int×Int}(hr:Rule (kd N (i:Int)) (pn N i).length r){ps:List Int}(U:Uf ρ (fst N N.length) ps):
  ∃ps',iter M60.s2 (pS2 N A C i rs ri 0 r ps)=some (qS2 N A C i rs ri r ps')/\Uf ρ (fst N N.length) ps':=by
 obtain⟨y,h1,ps',rfl,h3⟩:=iter_inv (step:=M60.s2) (λx=>∃(p:Nat) (qs:List Int),x=pS2 N A C i rs ri p r qs/\p<=(pn N i).length/\Uf ρ (fst N N.length) qs) (λx=>(pn N i).length - x.pi.toNat)
  (λy=>∃ps',y=qS2 N A C i rs ri r ps'/\Uf ρ (fst N N.length) ps') (by
   rintro x ⟨p,qs,rfl,hp,hU⟩;have hpl:=(h.pins (i:=(i:Int)) ⟨by omega,by omega⟩).1;rw[AA]at hpl;unfold M60.s2;by_cases hlt:p<(pn N i).length
   ·have c1:=ilt (a:=(p:Int)) (b:=((pn N i).length:Int)) (by omega);have h01:=hr.r01;have e1:((r.1.toNat:Nat):Int)=r.1:=Az (by omega);have e2:((r.2.toNat:Nat):Int)=r.2:=Az (by omega);have q1:=m62 h (i:=i) (p:=p+1) (v:=r.1.toNat) (T:=fst N N.length) (T':=fst N N.length) (ps:=qs) (pin:=(p:Int)) hi (by omega) (by omega) (by omega);have q2:=m62 h (i:=i) (p:=0) (v:=r.2.toNat) (T:=fst N N.length) (T':=fst N N.length) (ps:=qs) (pin:= -1) hi (by omega) (by omega) (by omega);rw[e1]at q1;rw[e2]at q2;obtain⟨qs',q3,hU'⟩:=m105 hU (num_lt (v:=r.1.toNat) hi (show p+1<=_ by omega) (by omega)) (num_lt (v:=r.2.toNat) hi (Af _) (by omega)) (hE.gate i p r hi hr hlt) (a0:=0) (a1:=N.length) (k:=fst N N.length) (fs:=fsL N N.length);simp only[c1,A6,q1,q2,q3,bindO,suc (i:=p) (by omega)];exact⟨_,rfl,⟨p+1,qs',rfl,hlt,hU'⟩,by simp;omega⟩
   ·have c1:=inlt (a:=(p:Int)) (b:=((pn N i).length:Int)) (by omega);simp only[c1,A7];exact⟨_,rfl,qs,rfl,hU⟩) (pS2 N A C i rs ri 0 r ps) ⟨0,ps,rfl,Af _,U⟩
 exact⟨ps',h1,h3⟩
def m60_1(h:Ck N A C)(hE:Eqs ρ N C){i:Nat}(hi:i<N.length){rs:List (Int×Int)}(hl:rs.length<=2)(hr:∀r∈rs,Rule (kd N (i:Int)) (pn N i).length r){ps:List Int}(U:Uf ρ (fst N N.length) ps):
  ∃ps',iter M60.s1 (pS1 N A C i rs 0 ps)=some (qS1 N A C i ps')/\Uf ρ (fst N N.length) ps':=by
 obtain⟨y,h1,ps',rfl,h3⟩:=iter_inv (step:=M60.s1) (λx=>∃(j:Nat) (qs:List Int),x=pS1 N A C i rs j qs/\j<=rs.length/\Uf ρ (fst N N.length) qs) (λx=>rs.length - x.ri.toNat)
  (λy=>∃ps',y=qS1 N A C i ps'/\Uf ρ (fst N N.length) ps') (by
   rintro x ⟨j,qs,rfl,hj,hU⟩;unfold M60.s1;by_cases hlt:j<rs.length
   ·have c1:=ilt (a:=(j:Int)) (b:=(rs.length:Int)) (by omega);obtain⟨qs',q1,hU'⟩:=m60_2 h hE hi (rs:=rs) (ri:=j) (hr _ (A9 hlt)) hU;have e:rs[j]?.getD (0,0)=rs[j]:=(by rw[A4 hlt];rfl);have q1':iter M60.s2 { n:=(i:Int),ns:=N,m:=(N.length:Int),i:=(i:Int),rs:=rs,rm:=(rs.length:Int),ri:=(j:Int),pm:=((pn N i).length:Int),pi:=0,Q0:=N,Q1:=A,Q4:=[],Q3:=C,QK:=0,QE:=N.length,QM:=0,QI:=fst N N.length,QJ:=fst N N.length,fs:=fsL N N.length,ps:=qs,kind:=kd N (i:Int),inn:=pn N i,mem:=(N[i]?.getD (0,[],0,0)).2.2.1,bit:=(N[i]?.getD (0,[],0,0)).2.2.2,rp:=rs[j].1,ro:=rs[j].2 }=some (qS2 N A C i rs j rs[j] qs'):=q1;simp only[c1,inR_nat hlt,A6,AA,e,q1',bindO,suc (i:=j) (by omega)];exact⟨_,rfl,⟨j+1,qs',rfl,hlt,hU'⟩,by simp;omega⟩
   ·have c1:=inlt (a:=(j:Int)) (b:=(rs.length:Int)) (by omega);simp only[c1,A7];exact⟨_,rfl,qs,rfl,hU⟩) (pS1 N A C i rs 0 ps) ⟨0,ps,rfl,Af _,U⟩
 exact⟨ps',h1,h3⟩
def m60_0(h:Ck N A C)(hE:Eqs ρ N C){ps:List Int}(U:Uf ρ (fst N N.length) ps):
  ∃ps',iter M60.s0 (pS0 N A C 0 ps)=some (qS0 N A C ps')/\Uf ρ (fst N N.length) ps':=by
 have hN:=h.few;obtain⟨y,h1,ps',rfl,h3⟩:=iter_inv (step:=M60.s0) (λx=>∃(i:Nat) (qs:List Int),x=pS0 N A C i qs/\i<=N.length/\Uf ρ (fst N N.length) qs) (λx=>N.length - x.i.toNat)
  (λy=>∃ps',y=qS0 N A C ps'/\Uf ρ (fst N N.length) ps') (by
   rintro x ⟨i,qs,rfl,hi,hU⟩;unfold M60.s0;by_cases hlt:i<N.length
   ·have c1:=ilt (a:=(i:Int)) (b:=(N.length:Int)) (by omega);obtain⟨rs,q0,q1,q2⟩:=m104 (kd N (i:Int)) (pn N i) (N[i]?.getD (0,[],0,0)).2.2.1 (N[i]?.getD (0,[],0,0)).2.2.2;obtain⟨qs',q3,hU'⟩:=m60_1 h hE hlt q1 q2 hU;have e5:(N[i]?.getD (0,[],0,0)).2.1=pn N i:=rfl;have e6:(N[i]?.getD (0,[],0,0)).1=kd N (i:Int):=rfl;have q3':iter M60.s1 { n:=(i:Int),ns:=N,m:=(N.length:Int),i:=(i:Int),rs:=rs,rm:=(rs.length:Int),ri:=0,Q0:=N,Q1:=A,Q4:=[],Q3:=C,QK:=0,QE:=N.length,QM:=0,QI:=fst N N.length,QJ:=fst N N.length,fs:=fsL N N.length,ps:=qs,kind:=kd N (i:Int),inn:=pn N i,mem:=(N[i]?.getD (0,[],0,0)).2.2.1,bit:=(N[i]?.getD (0,[],0,0)).2.2.2 }=_:=q3;simp only[c1,inR_nat hlt,A6,AA,e5,e6,q0,q3',bindO,suc (i:=i) (by omega)];exact⟨_,rfl,⟨i+1,qs',rfl,hlt,hU'⟩,by simp;omega⟩
   ·have c1:=inlt (a:=(i:Int)) (b:=(N.length:Int)) (by omega);simp only[c1,A7];exact⟨_,rfl,qs,rfl,hU⟩) (pS0 N A C 0 ps) ⟨0,ps,rfl,Af _,U⟩
 exact⟨ps',h1,h3⟩
def m60_4(h:Ck N A C)(hE:Eqs ρ N C){fan:List (List (Int×Int))}{i m q:Nat}(hi:i<N.length)(hr:readers i N 0=[((m:Int),(q:Int))])(hc:(i:Int)∉C){ps:List Int}(U:Uf ρ (fst N N.length) ps):
  ∃ps',iter M60.s4 (pS4 N A C fan i [((m:Int),(q:Int))] 0 ps)=some (qS4 N A C fan i ps')/\Uf ρ (fst N N.length) ps':=by
 obtain⟨j,q',hj,he,hq⟩:=readers_mem i N 0 (e:=((m:Int),(q:Int))) (by rw[hr];exact B4 ..);obtain⟨rfl,rfl⟩:m=j/\q=q':=by have he:=Prod.mk.inj he;exact⟨by omega,by omega⟩
 have hql:q<(pn N m).length:=(AD.1 hq).1;obtain⟨y,h1,ps',rfl,h3⟩:=iter_inv (step:=M60.s4) (λx=>∃(v:Nat) (qs:List Int),x=pS4 N A C fan i [((m:Int),(q:Int))] v qs/\v<=2/\Uf ρ (fst N N.length) qs) (λx=>2 - x.v.toNat)
  (λy=>∃ps',y=qS4 N A C fan i ps'/\Uf ρ (fst N N.length) ps') (by
   rintro x ⟨v,qs,rfl,hv,hU⟩;unfold M60.s4;by_cases hlt:v<=1
   ·have c1:decide ((v:Int)<=1)=true:=AB (by omega);have c2:inR 0 ([((m:Int),(q:Int))]:List (Int×Int)).length=true:=rfl;have q1:=m62 h (i:=i) (p:=0) (v:=v) (T:=fst N N.length) (T':=fst N N.length) (ps:=qs) (pin:= -1) hi (Af _) hlt (by omega);have q2:=m62 h (i:=m) (p:=q+1) (v:=v) (T:=fst N N.length) (T':=fst N N.length) (ps:=qs) (pin:=(q:Int)) hj hql hlt (by omega);obtain⟨qs',q3,hU'⟩:=m105 hU (num_lt hi (Af _) hlt) (num_lt hj (show q+1<=_ from hql) hlt) (hE.stem i m q v hi hr hc hlt) (a0:=0) (a1:=N.length) (k:=fst N N.length) (fs:=fsL N N.length);have e:([((m:Int),(q:Int))]:List (Int×Int))[0]?.getD (0,0)=((m:Int),(q:Int)):=rfl;have w:IntKind.u8.wrap ((v:Int)+1)=((v+1:Nat):Int):=(by rw[w8 (by omega) (by omega)];omega);simp only[c1,c2,A6,q1,e,q2,q3,bindO,w];exact⟨_,rfl,⟨v+1,qs',rfl,by omega,hU'⟩,by simp;omega⟩
   ·have c1:decide ((v:Int)<=1)=false:=AM (by omega);simp only[c1,A7];exact⟨_,rfl,qs,rfl,hU⟩) (pS4 N A C fan i [((m:Int),(q:Int))] 0 ps) ⟨0,ps,rfl,Af _,U⟩
 exact⟨ps',h1,h3⟩
def m60_3(h:Ck N A C)(hE:Eqs ρ N C){ps:List Int}(U:Uf ρ (fst N N.length) ps):
  ∃ps',iter M60.s3 (pS3 N A C ((List.range N.length).map λn=>readers n N 0) 0 ps)=some (qS3 N ps')/\Uf ρ (fst N N.length) ps':=by
 have hN:=h.few;have hC:=h.fewC;obtain⟨y,h1,ps',rfl,h3⟩:=iter_inv (step:=M60.s3) (λx=>∃(i:Nat) (qs:List Int),x=pS3 N A C ((List.range N.length).map λn=>readers n N 0) i qs/\i<=N.length/\Uf ρ (fst N N.length) qs) (λx=>N.length - x.i.toNat)
  (λy=>∃ps',y=qS3 N ps'/\Uf ρ (fst N N.length) ps') (by
   rintro x ⟨i,qs,rfl,hi,hU⟩;unfold M60.s3;by_cases hlt:i<N.length
   ·have c1:=ilt (a:=(i:Int)) (b:=(N.length:Int)) (by omega);have hlf:i<((List.range N.length).map λn=>readers n N 0).length:=(by simpa using hlt);have e:(((List.range N.length).map λn=>readers n N 0)[i]?.getD [])=readers i N 0:=(by simp[hlt]);simp only[c1,inR_nat hlf,A6,AA,e,m107 (l:=C) (v:=(i:Int)) (by omega),suc (i:=i) (by omega)];by_cases h1:(readers i N 0).length=1
    ·have c2:(((readers i N 0).length:Int)==1)=true:=BU.2 (by omega);simp only[c2,A6,bindO]
     cases hm:C.any λx=>(i:Int)==x with
     |true=>simp only[Cb,A7];exact⟨_,rfl,⟨i+1,qs,rfl,hlt,hU⟩,by simp;omega⟩
     |false=>have hc:(i:Int)∉C:=λhc=>(by have:(C.any λx=>(i:Int)==x)=true:=List.any_eq_true.2 ⟨_,hc,by simp⟩;rw[hm]at this;cases this);obtain⟨a,ha⟩:=List.length_eq_one_iff.1 h1;obtain⟨m,q,hj,he,hq⟩:=readers_mem i N 0 (e:=a) (by rw[ha];exact B4 ..);rw[AF]at he;subst he;obtain⟨qs',q3,hU'⟩:=m60_4 h hE (fan:=(List.range N.length).map λn=>readers n N 0) hlt ha hc hU;have q3':iter M60.s4 { fan:=(List.range N.length).map λn=>readers n N 0,m:=(N.length:Int),i:=(i:Int),n:=(i:Int),l:=readers i N 0,v:=0,Q0:=N,Q1:=A,Q4:=[],Q3:=C,QK:=0,QE:=N.length,QM:=0,QI:=fst N N.length,QJ:=fst N N.length,fs:=fsL N N.length,ps:=qs }=some (qS4 N A C ((List.range N.length).map λn=>readers n N 0) i qs'):=(by rw[ha];exact q3);simp only[Bc,A6,q3',suc (i:=i) (by omega)];exact⟨_,rfl,⟨i+1,qs',rfl,hlt,hU'⟩,by simp;omega⟩
    ·have c2:(((readers i N 0).length:Int)==1)=false:=Ag.2 (by omega);simp only[c2,A7,bindO];exact⟨_,rfl,⟨i+1,qs,rfl,hlt,hU⟩,by simp;omega⟩
   ·have c1:=inlt (a:=(i:Int)) (b:=(N.length:Int)) (by omega);simp only[c1,A7];exact⟨_,rfl,qs,rfl,hU⟩) (pS3 N A C ((List.range N.length).map λn=>readers n N 0) 0 ps) ⟨0,ps,rfl,Af _,U⟩
 exact⟨ps',h1,h3⟩
def m60(h:Ck N A C)(hE:Eqs ρ N C):∃ps,M60.m ⟨N,A,[],C⟩=some (0,N.length,0,fst N N.length,fst N N.length,fsL N N.length,ps)/\Uf ρ (fst N N.length) ps:=by
 have hN:=h.few;obtain⟨p1,q1,U1⟩:=m60_0 h hE nums_uf;obtain⟨p2,q2,U2⟩:=m60_3 h hE U1;have fw:∀y∈N,y.2.1.length<=100:=λy hy=>by obtain⟨k,hk,rfl⟩:=BB hy;have:=(h.pins (i:=(k:Int)) ⟨by omega,by omega⟩).1;rw[AA]at this;have e:pn N k=N[k].2.1:=(by unfold pn;rw[A4 hk];rfl);rw[e]at this;omega
 have h106:M106.m ⟨N,A,[],C⟩=some ((List.range N.length).map λn=>readers n N 0):=by unfold M106.m;exact AC ⟨by show N.length<=100;omega,fw⟩
 refine⟨p2,?_,U2⟩;have q1':iter M60.s0 { ns:=N,m:=(N.length:Int),i:=0,Q0:=N,Q1:=A,Q4:=[],Q3:=C,QK:=0,QE:=N.length,QM:=0,QI:=fst N N.length,QJ:=fst N N.length,fs:=fsL N N.length,ps:=nums (fst N N.length) }=_:=q1;have e:(((List.range N.length).map λn=>readers n N 0).length:Int)=(N.length:Int):=by simp
 have q2':iter M60.s3 { fan:=(List.range N.length).map λn=>readers n N 0,m:=(N.length:Int),i:=0,Q0:=N,Q1:=A,Q4:=[],Q3:=C,QK:=0,QE:=N.length,QM:=0,QI:=fst N N.length,QJ:=fst N N.length,fs:=fsL N N.length,ps:=p1 }=_:=q2;unfold M60.m;simp only[m103 h,bindO,q1',h106,e,q2']
end
end Co
namespace M56o
structure gX where(s_lo Je:Nat)(xs:List ((Int)×Int))
def g:Sg gX:=⟨[.c (.sl 0 0 2)],[.arr (.pair lI lI) 0],λa b=>⟨a.1.1,a.1.2,b.1⟩,λx=>((x.s_lo,x.Je),()),λx=>(x.xs,())⟩
abbrev fY:=Nat×Nat×Nat×(List ((Int)×Int))
def f:Ft fY:=⟨none,.c (.slc 0 0 2),[.arr (.pair lI lI) 0],λa b=>(a.1,a.2.1,a.2.2,b.1),λy=>(y.1,y.2.1,y.2.2.1),λy=>(y.2.2.2,())⟩
def m(x:gX):Option fY:=bif decide (0<=(x.Je:Int))&&decide ((x.Je:Int)<=(x.Je:Int))&&(decide (0<=(x.Je:Int))&&decide ((x.Je:Int)<=(↑(x.Je:Int).toNat:Int))) then some (x.s_lo,(x.Je:Int).toNat,(x.Je:Int).toNat,x.xs) else none
def known:QQ prog 56 g f m:=
 kc0 [] s56
def con:Con:=Y2 g [.arg 0 0] f m default
def con_ok:J4 prog 56 con:=JY known
end M56o
namespace M24
structure gX where(Q0:TN)(Q1:TS)(Q4:TM)(Q3:TI)
def g:Sg gX:=⟨[.agg cir4],[],λa b=>⟨a.1.1,a.1.2.1,a.1.2.2.1,a.1.2.2.2.1⟩,λx=>((x.Q0,(x.Q1,(x.Q4,(x.Q3,())))),()),λx=>()⟩
abbrev fY:=(List ((Int)×Int))×Int
def f:Ft fY:=⟨none,.tup [.inl (.arr (.pair lI lI)),.inl (iI)],[],λa b=>(a.1,a.2.1),λy=>(y.1,(y.2,())),λy=>()⟩
def cl:List CK:=[ck M55.known,⟨56,M56o.con,M56o.con_ok⟩]
structure p1X where(QC Q8:Nat)(ns:TN)(m i n q j:Int)(Q0:TN)(Q1:TS)(Q4:TM)(Q3:TI)(xs:List ((Int)×Int))
def p1:Pt p1X:=⟨[],⟨[(1,cP),(5,.c (.sl 1 0 2)),(15,.c (aN)),(16,cI),(17,cI),(6,cI),(25,cI),(26,cI)],[oC,.arr (.pair lI lI) 0]⟩,λ((_,(a,b),c,d,e,f,g,h,_),(i,j,k,l,_),m,_)=>⟨a,b,c,d,e,f,g,h,i,j,k,l,m⟩,λx=>(((),((x.QC,x.Q8),(x.ns,(x.m,(x.i,(x.n,(x.q,(x.j,())))))))),((x.Q0,(x.Q1,(x.Q4,(x.Q3,())))),(x.xs,())))⟩
structure q1X where(QC Q8:Nat)(ns:TN)(m i:Int)(Q0:TN)(Q1:TS)(Q4:TM)(Q3:TI)(xs:List ((Int)×Int))
def q1:Pt q1X:=⟨[],⟨[(1,cP),(5,.c (.sl 1 0 2)),(15,.c (aN)),(16,cI),(17,cI)],[oC,.arr (.pair lI lI) 0]⟩,λ((_,(a,b),c,d,e,_),(f,g,h,i,_),j,_)=>⟨a,b,c,d,e,f,g,h,i,j⟩,λx=>(((),((x.QC,x.Q8),(x.ns,(x.m,(x.i,()))))),((x.Q0,(x.Q1,(x.Q4,(x.Q3,())))),(x.xs,())))⟩
def s1(x:p1X):Option (p1X⊕q1X):=bif decide (x.j<x.q) then bif eqN x.QC 0&&eqN x.xs.length x.Q8&&J1 (x.Q8+1) 16 then some (inl ⟨0,x.Q8+1,x.ns,x.m,x.i,x.n,x.q,i64.wrap (x.j+1),x.Q0,x.Q1,x.Q4,x.Q3,x.xs++[(x.n,i64.wrap (x.j - 1))]⟩) else none else some (inr ⟨x.QC,x.Q8,x.ns,x.m,x.i,x.Q0,x.Q1,x.Q4,x.Q3,x.xs⟩)
def l1:QT:=Qa 0 p1 (.exit 2) q1 s1
def l1_ok  :QO prog 40 none 0 (C24.QR 1) l1:=lc cl 2 (λ_=>none) QX.nil
structure p0X where(QC Q8:Nat)(ns:TN)(m i:Int)(Q0:TN)(Q1:TS)(Q4:TM)(Q3:TI)(xs:List ((Int)×Int))
def p0:Pt p0X:=⟨[.reg 5 (.pair (.int .i64) (.int .i64))],⟨[(1,cP),(5,.c (.sl 1 0 2)),(15,.c (aN)),(16,cI),(17,cI)],[oC,.arr (.pair lI lI) 0]⟩,λ((_,(a,b),c,d,e,_),(f,g,h,i,_),j,_)=>⟨a,b,c,d,e,f,g,h,i,j⟩,λx=>(((),((x.QC,x.Q8),(x.ns,(x.m,(x.i,()))))),((x.Q0,(x.Q1,(x.Q4,(x.Q3,())))),(x.xs,())))⟩
structure q0X where(QC Q8:Nat)(xs:List ((Int)×Int))
def q0:Pt q0X:=⟨[],⟨[(5,.c (.sl 1 0 2))],[.st [jk,jk,jk,jk] 1 0,.arr (.pair lI lI) 0]⟩,λ(((a,b),_),_,c,_)=>⟨a,b,c⟩,λx=>(((x.QC,x.Q8),()),(((),((),((),((),())))),(x.xs,())))⟩
def s0(x:p0X):Option (p0X⊕q0X):=bif decide (x.i<x.m) then bif inR x.i x.ns.length then bindO (iter s1 ⟨x.QC,x.Q8,x.ns,x.m,x.i,x.i,i64.wrap ((↑(List.length (x.ns[x.i.toNat]?.getD (0,[],0,0)).2.1):Int)+1),0,x.Q0,x.Q1,x.Q4,x.Q3,x.xs⟩) λy=>some (inl ⟨y.QC,y.Q8,y.ns,y.m,i64.wrap (y.i+1),y.Q0,y.Q1,y.Q4,y.Q3,y.xs⟩) else none else some (inr ⟨x.QC,x.Q8,x.xs⟩)
def l0:QT:=Qa 0 p0 (.exit 0) q0 s0
def l0_ok  :QO prog 40 none 0 (C24.QR 0) l0:=lc cl 1 (J2 [(1,l1)]) (ac 1 l1_ok QX.nil)
def m(x:gX):Option fY:=bindO (M55.m ⟨x.Q0,x.Q1,x.Q4,x.Q3⟩) λy=>bif y !=0 then some ([],y) else bindO (iter s0 ⟨0,0,x.Q0,(x.Q0.length:Int),0,x.Q0,x.Q1,x.Q4,x.Q3,[]⟩) λy=>bindO (M56o.m ⟨y.QC,y.Q8,y.xs⟩) λy=>bif leB (y.1+y.2.1) y.2.2.2.length&&true&&true&&true then some (List.take y.2.1 (List.drop y.1 y.2.2.2),0) else none
def known:QQ prog 24 g f m:=
 kc cl s24 (J2 [(0,l0),(1,l1)]) (ac 0 l0_ok QX.nil)
end M24
namespace M27
structure gX where(Q0:TN)(Q1:TS)(Q4:TM)(Q3:TI)(l:List ((Int)×(Int)×(Int)×(Int)×Int))
def g:Sg gX:=⟨[.agg cir4,.c (.arr (.pair lB (.pair lI (.pair lI (.pair lB lI)))))],[],λa b=>⟨a.1.1,a.1.2.1,a.1.2.2.1,a.1.2.2.2.1,a.2.1⟩,λx=>((x.Q0,(x.Q1,(x.Q4,(x.Q3,())))),(x.l,())),λx=>()⟩
abbrev fY:=Int
def f:Ft fY:=⟨none,cI,[],λa b=>(a),λy=>y,λy=>()⟩
def cl:List CK:=[ck M24.known,ck M59.known]
structure p0X where(l:List ((Int)×(Int)×(Int)×(Int)×Int))(n i:Int)(Q0:TN)(Q1:TS)(Q4:TM)(Q3:TI)
def p0:Pt p0X:=⟨[],⟨[(2,cP),(21,.c (.arr (.pair lB (.pair lI (.pair lI (.pair lB lI)))))),(22,cI),(23,cI)],[oC]⟩,λ((_,a,b,c,_),(d,e,f,g,_),_)=>⟨a,b,c,d,e,f,g⟩,λx=>(((),(x.l,(x.n,(x.i,())))),((x.Q0,(x.Q1,(x.Q4,(x.Q3,())))),()))⟩
abbrev q0X:=Unit
def q0:Pt q0X:=⟨[],⟨[],[]⟩,λv=>(),λx=>((),())⟩
structure z0X where(r:Int)
def z0:Pt z0X:=⟨[],⟨[(4,cI)],[]⟩,λv=>⟨v.1.1⟩,λx=>((x.r,()),())⟩
def s0(x:p0X):Option (p0X⊕(q0X⊕z0X)):=bif decide (x.i<x.n) then bif inR x.i x.l.length then bindO (M59.m ⟨x.Q0,x.Q1,x.Q4,x.Q3,(x.l[x.i.toNat]?.getD (0,0,0,0,0)).1,(x.l[x.i.toNat]?.getD (0,0,0,0,0)).2.1,(x.l[x.i.toNat]?.getD (0,0,0,0,0)).2.2.1,(x.l[x.i.toNat]?.getD (0,0,0,0,0)).2.2.2.1,(x.l[x.i.toNat]?.getD (0,0,0,0,0)).2.2.2.2⟩) λy=>bif y !=0 then some (inr (inr ⟨y⟩)) else some (inl ⟨x.l,x.n,i64.wrap (x.i+1),x.Q0,x.Q1,x.Q4,x.Q3⟩) else none else some (inr (inl PUnit.unit))
def l0:QT:=JW 0 p0 (.exit 0) q0 .ret z0 s0
def l0_ok  :QO prog 34 none 0 (C27.QR 0) l0:=lc2 cl 1 (λ_=>none) QX.nil
def m(x:gX):Option fY:=bif decide ((x.l.length:Int)>65536) then some 3 else bindO (M24.m ⟨x.Q0,x.Q1,x.Q4,x.Q3⟩) λy=>bif y.2 !=0 then some y.2 else bindO (iter s0 ⟨x.l,(x.l.length:Int),0,x.Q0,x.Q1,x.Q4,x.Q3⟩) λs=>sumC s (λy=>some 0) λz=>some z.r
def known:QQ prog 27 g f m:=
 kc cl s27 (J2 [(0,l0)]) (ac 0 l0_ok QX.nil)
end M27
namespace M63
structure gX where(Q0:TN)(Q1:TS)(Q4:TM)(Q3:TI)
def g:Sg gX:=⟨[.agg cir4],[],λa b=>⟨a.1.1,a.1.2.1,a.1.2.2.1,a.1.2.2.2.1⟩,λx=>((x.Q0,(x.Q1,(x.Q4,(x.Q3,())))),()),λx=>()⟩
abbrev fY:=Int
def f:Ft fY:=⟨none,cI,[],λa b=>(a),λy=>y,λy=>()⟩
structure p0X where(n:Int)(ns:TN)(m i:Int)
def p0:Pt p0X:=⟨[],⟨[(3,cI),(10,.c (aN)),(11,cI),(12,cI)],[]⟩,λ((a,b,c,d,_),_)=>⟨a,b,c,d⟩,λx=>((x.n,(x.ns,(x.m,(x.i,())))),())⟩
structure q0X where(n:Int)
def q0:Pt q0X:=⟨[],⟨[(3,cI)],[]⟩,λv=>⟨v.1.1⟩,λx=>((x.n,()),())⟩
def s0(x:p0X):Option (p0X⊕q0X):=bif decide (x.i<x.m) then bif inR x.i x.ns.length then some (inl ⟨bif (x.ns[x.i.toNat]?.getD (0,[],0,0)).1==14 then i64.wrap (x.n+1) else x.n,x.ns,x.m,i64.wrap (x.i+1)⟩) else none else some (inr ⟨x.n⟩)
def l0:QT:=Qa 0 p0 (.exit 0) q0 s0
def l0_ok  :QO prog 23 none 0 (C63.QR 0) l0:=lc [] 1 (λ_=>none) QX.nil
def m(x:gX):Option fY:=bindO (iter s0 ⟨(x.Q3.length:Int),x.Q0,(x.Q0.length:Int),0⟩) λy=>some y.n
def known:QQ prog 63 g f m:=
 kc [] s63 (J2 [(0,l0)]) (ac 0 l0_ok QX.nil)
end M63
namespace M64
structure gX where(Q0:TN)(Q1:TS)(Q4:TM)(Q3 inn state:TI)
def g:Sg gX:=⟨[.agg cir4,.agg [aB,aB]],[],λa b=>⟨a.1.1,a.1.2.1,a.1.2.2.1,a.1.2.2.2.1,a.2.1.1,a.2.1.2.1⟩,λx=>((x.Q0,(x.Q1,(x.Q4,(x.Q3,())))),((x.inn,(x.state,())),())),λx=>()⟩
abbrev fY:=Int
def f:Ft fY:=⟨none,cI,[],λa b=>(a),λy=>y,λy=>()⟩
def m(x:gX):Option fY:=bindO (M98.m ⟨x.Q0,x.Q1,x.Q4,x.Q3⟩) λy=>bif y !=0 then some y else bindO (M41.m ⟨x.Q0,x.Q1,x.Q4,x.Q3,x.inn,x.state⟩) λy=>some y
def known:QQ prog 64 g f m:=
 kc0 [ck M98.known,ck M41.known] s64
end M64
namespace M30
structure gX where(Q0:TN)(Q1:TS)(Q4:TM)(Q3:TI)(l:List ((Int)×(Int)×(Int)×(Int)×Int))(Q7:List (TI×TI))
def g:Sg gX:=⟨[.agg cir4,.c (.arr (.pair lB (.pair lI (.pair lI (.pair lB lI))))),.c (.arr (.pair (.sl lB) (.sl lB)))],[],λa b=>⟨a.1.1,a.1.2.1,a.1.2.2.1,a.1.2.2.2.1,a.2.1,a.2.2.1⟩,λx=>((x.Q0,(x.Q1,(x.Q4,(x.Q3,())))),(x.l,(x.Q7,()))),λx=>()⟩
abbrev fY:=Int
def f:Ft fY:=⟨none,cI,[],λa b=>(a),λy=>y,λy=>()⟩
def cl:List CK:=[ck M63.known,ck M24.known,ck M59.known,ck M64.known]
structure p1X where(Q7:List (TI×TI))(n i:Int)(Q0:TN)(Q1:TS)(Q4:TM)(Q3:TI)
def p1:Pt p1X:=⟨[],⟨[(3,cP),(58,.c (.arr (.pair (.sl lB) (.sl lB)))),(59,cI),(60,cI)],[oC]⟩,λ((_,a,b,c,_),(d,e,f,g,_),_)=>⟨a,b,c,d,e,f,g⟩,λx=>(((),(x.Q7,(x.n,(x.i,())))),((x.Q0,(x.Q1,(x.Q4,(x.Q3,())))),()))⟩
abbrev q1X:=Unit
def q1:Pt q1X:=⟨[],⟨[],[]⟩,λv=>(),λx=>((),())⟩
structure z1X where(r:Int)
def z1:Pt z1X:=⟨[],⟨[(6,cI)],[]⟩,λv=>⟨v.1.1⟩,λx=>((x.r,()),())⟩
def s1(x:p1X):Option (p1X⊕(q1X⊕z1X)):=bif decide (x.i<x.n) then bif inR x.i x.Q7.length then bindO (M64.m ⟨x.Q0,x.Q1,x.Q4,x.Q3,(x.Q7[x.i.toNat]?.getD ([],[])).1,(x.Q7[x.i.toNat]?.getD ([],[])).2⟩) λy=>bif y !=0 then some (inr (inr ⟨y⟩)) else some (inl ⟨x.Q7,x.n,i64.wrap (x.i+1),x.Q0,x.Q1,x.Q4,x.Q3⟩) else none else some (inr (inl PUnit.unit))
def l1:QT:=JW 0 p1 (.exit 2) q1 .ret z1 s1
def l1_ok  :QO prog 71 none 0 (C30.QR 1) l1:=lc2 cl 2 (λ_=>none) QX.nil
structure p0X where(Q7:List (TI×TI))(l:List ((Int)×(Int)×(Int)×(Int)×Int))(n i:Int)(Q0:TN)(Q1:TS)(Q4:TM)(Q3:TI)
def p0:Pt p0X:=⟨[],⟨[(2,.c (.arr (.pair (.sl lB) (.sl lB)))),(3,cP),(42,.c (.arr (.pair lB (.pair lI (.pair lI (.pair lB lI)))))),(43,cI),(44,cI)],[oC]⟩,λ((a,_,b,c,d,_),(e,f,g,h,_),_)=>⟨a,b,c,d,e,f,g,h⟩,λx=>((x.Q7,((),(x.l,(x.n,(x.i,()))))),((x.Q0,(x.Q1,(x.Q4,(x.Q3,())))),()))⟩
structure q0X where(Q7:List (TI×TI))(Q0:TN)(Q1:TS)(Q4:TM)(Q3:TI)
def q0:Pt q0X:=⟨[],⟨[(2,.c (.arr (.pair (.sl lB) (.sl lB)))),(3,cP)],[oC]⟩,λ((a,_),(b,c,d,e,_),_)=>⟨a,b,c,d,e⟩,λx=>((x.Q7,((),())),((x.Q0,(x.Q1,(x.Q4,(x.Q3,())))),()))⟩
structure z0X where(r:Int)
def z0:Pt z0X:=⟨[],⟨[(6,cI)],[]⟩,λv=>⟨v.1.1⟩,λx=>((x.r,()),())⟩
def s0(x:p0X):Option (p0X⊕(q0X⊕z0X)):=bif decide (x.i<x.n) then bif inR x.i x.l.length then bindO (M59.m ⟨x.Q0,x.Q1,x.Q4,x.Q3,(x.l[x.i.toNat]?.getD (0,0,0,0,0)).1,(x.l[x.i.toNat]?.getD (0,0,0,0,0)).2.1,(x.l[x.i.toNat]?.getD (0,0,0,0,0)).2.2.1,(x.l[x.i.toNat]?.getD (0,0,0,0,0)).2.2.2.1,(x.l[x.i.toNat]?.getD (0,0,0,0,0)).2.2.2.2⟩) λy=>bif y !=0 then some (inr (inr ⟨y⟩)) else bif (x.l[x.i.toNat]?.getD (0,0,0,0,0)).1==1 then some (inr (inr ⟨7⟩)) else some (inl ⟨x.Q7,x.l,x.n,i64.wrap (x.i+1),x.Q0,x.Q1,x.Q4,x.Q3⟩) else none else some (inr (inl ⟨x.Q7,x.Q0,x.Q1,x.Q4,x.Q3⟩))
def l0:QT:=JW 0 p0 (.exit 0) q0 .ret z0 s0
def l0_ok  :QO prog 71 none 0 (C30.QR 0) l0:=lc2 cl 1 (J2 [(1,l1)]) QX.nil
def m(x:gX):Option fY:=bindO (bif !bif decide ((x.l.length:Int)>65536) then true else decide ((x.Q7.length:Int)>4096) then M63.m ⟨x.Q0,x.Q1,x.Q4,x.Q3⟩ else some (Int.ofNat 0)) λy=>bif bif bif decide ((x.l.length:Int)>65536) then true else decide ((x.Q7.length:Int)>4096) then true else decide (i64.wrap (i64.wrap ((x.l.length:Int)*(x.Q7.length:Int))*y)>1048576) then some 3 else bindO (M24.m ⟨x.Q0,x.Q1,x.Q4,x.Q3⟩) λy=>bif y.2 !=0 then some y.2 else bindO (iter s0 ⟨x.Q7,x.l,(x.l.length:Int),0,x.Q0,x.Q1,x.Q4,x.Q3⟩) λs=>sumC s (λy=>bindO (iter s1 ⟨y.Q7,(y.Q7.length:Int),0,y.Q0,y.Q1,y.Q4,y.Q3⟩) λs=>sumC s (λy=>some 0) λz=>some z.r) λz=>some z.r
def known:QQ prog 30 g f m:=
 kc cl s30 (J2 [(0,l0),(1,l1)]) (ac 0 l0_ok (ac 1 l1_ok QX.nil))
end M30
namespace M66o
structure gX where(s_lo Je:Nat)(xs:List ((Int)×(Bool)×Int))
def g:Sg gX:=⟨[.c (.sl 0 0 3)],[.arr (.pair lI (.pair .bool lI)) 0],λa b=>⟨a.1.1,a.1.2,b.1⟩,λx=>((x.s_lo,x.Je),()),λx=>(x.xs,())⟩
abbrev fY:=Nat×Nat×Nat×(List ((Int)×(Bool)×Int))
def f:Ft fY:=⟨none,.c (.slc 0 0 3),[.arr (.pair lI (.pair .bool lI)) 0],λa b=>(a.1,a.2.1,a.2.2,b.1),λy=>(y.1,y.2.1,y.2.2.1),λy=>(y.2.2.2,())⟩
def m(x:gX):Option fY:=bif decide (0<=(x.Je:Int))&&decide ((x.Je:Int)<=(x.Je:Int))&&(decide (0<=(x.Je:Int))&&decide ((x.Je:Int)<=(↑(x.Je:Int).toNat:Int))) then some (x.s_lo,(x.Je:Int).toNat,(x.Je:Int).toNat,x.xs) else none
def known:QQ prog 66 g f m:=
 kc0 [] s66
def con:Con:=Y2 g [.arg 0 0] f m default
def con_ok:J4 prog 66 con:=JY known
end M66o
namespace M31
structure gX where(Q0:TN)(Q1:TS)(Q4:TM)(Q3:TI)(QF QG QP value other:Int)(Q7:List (TI×TI))(Qc QV:Nat)(gs:List (TI×TI))
def g:Sg gX:=⟨[.agg cir4,.agg [iB,iI,iI,iB,iI],.c (.arr (.pair (.sl lB) (.sl lB))),.c (.sl 0 0 2)],[.arr (.pair (.sl lB) (.sl lB)) 0],λa b=>⟨a.1.1,a.1.2.1,a.1.2.2.1,a.1.2.2.2.1,a.2.1.1,a.2.1.2.1,a.2.1.2.2.1,a.2.1.2.2.2.1,a.2.1.2.2.2.2.1,a.2.2.1,a.2.2.2.1.1,a.2.2.2.1.2,b.1⟩,λx=>((x.Q0,(x.Q1,(x.Q4,(x.Q3,())))),((x.QF,(x.QG,(x.QP,(x.value,(x.other,()))))),(x.Q7,((x.Qc,x.QV),())))),λx=>(x.gs,())⟩
abbrev fY:=(List ((Int)×(Bool)×Int))×(List (TI×TI))
def f:Ft fY:=⟨none,.c (.arr (.pair lI (.pair .bool lI))),[.arr (.pair (.sl lB) (.sl lB)) 0],λa b=>(a,b.1),λy=>y.1,λy=>(y.2,())⟩
def cl:List CK:=[ck M16.known,ck M65.known,⟨66,M66o.con,M66o.con_ok⟩]
structure p2X where(Qc QV QC Q8:Nat)(Q7:List (TI×TI))(n i k:Int)(os:TI)(m j:Int)(gs:List (TI×TI))(Q0:TN)(Q1:TS)(Q4:TM)(Q3:TI)(QF QG QP value other:Int)(xs:List ((Int)×(Bool)×Int))
def p2:Pt p2X:=⟨[],⟨[(3,.c (.sl 0 0 2)),(4,.c (.ptr 1 0)),(5,.c (.ptr 2 0)),(9,.c (.sl 3 0 3)),(21,.c (.arr (.pair (.sl lB) (.sl lB)))),(22,cI),(23,cI),(10,cI),(58,cA),(59,cI),(60,cI)],[.arr (.pair (.sl lB) (.sl lB)) 0,oC,oG,.arr (.pair lI (.pair .bool lI)) 0,.st [jk,jk] 1 0,.st [jk,jk] 1 0]⟩,λ(((a,b),_,_,(c,d),e,f,g,h,i,j,k,_),l,(m,n,o,p,_),(q,r,s,t,u,_),w,_)=>⟨a,b,c,d,e,f,g,h,i,j,k,l,m,n,o,p,q,r,s,t,u,w⟩,λx=>(((x.Qc,x.QV),((),((),((x.QC,x.Q8),(x.Q7,(x.n,(x.i,(x.k,(x.os,(x.m,(x.j,()))))))))))),(x.gs,((x.Q0,(x.Q1,(x.Q4,(x.Q3,())))),((x.QF,(x.QG,(x.QP,(x.value,(x.other,()))))),(x.xs,(((),((),())),(((),((),())),())))))))⟩
structure q2X where(Qc QV QC Q8:Nat)(Q7:List (TI×TI))(n i:Int)(gs:List (TI×TI))(Q0:TN)(Q1:TS)(Q4:TM)(Q3:TI)(QF QG QP value other:Int)(xs:List ((Int)×(Bool)×Int))
def q2:Pt q2X:=⟨[],⟨[(3,.c (.sl 0 0 2)),(4,.c (.ptr 1 0)),(5,.c (.ptr 2 0)),(9,.c (.sl 3 0 3)),(21,.c (.arr (.pair (.sl lB) (.sl lB)))),(22,cI),(23,cI)],[.arr (.pair (.sl lB) (.sl lB)) 0,oC,oG,.arr (.pair lI (.pair .bool lI)) 0,.st [jk,jk] 1 0,.st [jk,jk] 1 0]⟩,λ(((a,b),_,_,(c,d),e,f,g,_),h,(i,j,k,l,_),(m,n,o,p,q,_),r,_)=>⟨a,b,c,d,e,f,g,h,i,j,k,l,m,n,o,p,q,r⟩,λx=>(((x.Qc,x.QV),((),((),((x.QC,x.Q8),(x.Q7,(x.n,(x.i,()))))))),(x.gs,((x.Q0,(x.Q1,(x.Q4,(x.Q3,())))),((x.QF,(x.QG,(x.QP,(x.value,(x.other,()))))),(x.xs,(((),((),())),(((),((),())),())))))))⟩
def s2(x:p2X):Option (p2X⊕q2X):=bif decide (x.j<x.m) then bif inR x.j x.os.length then bif eqN x.QC 0&&eqN x.xs.length x.Q8&&J1 (x.Q8+1) 24 then some (inl ⟨x.Qc,x.QV,0,x.Q8+1,x.Q7,x.n,x.i,x.k,x.os,x.m,i64.wrap (x.j+1),x.gs,x.Q0,x.Q1,x.Q4,x.Q3,x.QF,x.QG,x.QP,x.value,x.other,x.xs++[(x.k,true,x.os[x.j.toNat]?.getD 0)]⟩) else none else none else some (inr ⟨x.Qc,x.QV,x.QC,x.Q8,x.Q7,x.n,x.i,x.gs,x.Q0,x.Q1,x.Q4,x.Q3,x.QF,x.QG,x.QP,x.value,x.other,x.xs⟩)
def l2:QT:=Qa 1 p2 (.exit 4) q2 s2
def l2_ok  :QO prog 74 none 1 (C31.QR 2) l2:=lc cl 3 (λ_=>none) QX.nil
structure p1X where(Qc QV QC Q8:Nat)(Q7:List (TI×TI))(n i k:Int)(nx os:TI)(m j:Int)(gs:List (TI×TI))(Q0:TN)(Q1:TS)(Q4:TM)(Q3:TI)(QF QG QP value other:Int)(xs:List ((Int)×(Bool)×Int))
def p1:Pt p1X:=⟨[],⟨[(3,.c (.sl 0 0 2)),(4,.c (.ptr 1 0)),(5,.c (.ptr 2 0)),(9,.c (.sl 3 0 3)),(21,.c (.arr (.pair (.sl lB) (.sl lB)))),(22,cI),(23,cI),(10,cI),(16,cA),(45,cA),(46,cI),(47,cI)],[.arr (.pair (.sl lB) (.sl lB)) 0,oC,oG,.arr (.pair lI (.pair .bool lI)) 0,.st [jk,jk] 1 0,.st [jk,jk] 1 0]⟩,λ(((a,b),_,_,(c,d),e,f,g,h,i,j,k,l,_),m,(n,o,p,q,_),(r,s,t,u,w,_),x,_)=>⟨a,b,c,d,e,f,g,h,i,j,k,l,m,n,o,p,q,r,s,t,u,w,x⟩,λx=>(((x.Qc,x.QV),((),((),((x.QC,x.Q8),(x.Q7,(x.n,(x.i,(x.k,(x.nx,(x.os,(x.m,(x.j,())))))))))))),(x.gs,((x.Q0,(x.Q1,(x.Q4,(x.Q3,())))),((x.QF,(x.QG,(x.QP,(x.value,(x.other,()))))),(x.xs,(((),((),())),(((),((),())),())))))))⟩
structure q1X where(Qc QV QC Q8:Nat)(Q7:List (TI×TI))(n i k:Int)(nx:TI)(gs:List (TI×TI))(Q0:TN)(Q1:TS)(Q4:TM)(Q3:TI)(QF QG QP value other:Int)(xs:List ((Int)×(Bool)×Int))
def q1:Pt q1X:=⟨[],⟨[(3,.c (.sl 0 0 2)),(4,.c (.ptr 1 0)),(5,.c (.ptr 2 0)),(9,.c (.sl 3 0 3)),(21,.c (.arr (.pair (.sl lB) (.sl lB)))),(22,cI),(23,cI),(10,cI),(16,cA)],[.arr (.pair (.sl lB) (.sl lB)) 0,oC,oG,.arr (.pair lI (.pair .bool lI)) 0,.st [jk,jk] 1 0,.st [jk,jk] 1 0]⟩,λ(((a,b),_,_,(c,d),e,f,g,h,i,_),j,(k,l,m,n,_),(o,p,q,r,s,_),t,_)=>⟨a,b,c,d,e,f,g,h,i,j,k,l,m,n,o,p,q,r,s,t⟩,λx=>(((x.Qc,x.QV),((),((),((x.QC,x.Q8),(x.Q7,(x.n,(x.i,(x.k,(x.nx,()))))))))),(x.gs,((x.Q0,(x.Q1,(x.Q4,(x.Q3,())))),((x.QF,(x.QG,(x.QP,(x.value,(x.other,()))))),(x.xs,(((),((),())),(((),((),())),())))))))⟩
def s1(x:p1X):Option (p1X⊕q1X):=bif decide (x.j<x.m) then bif inR x.j x.os.length then bif eqN x.QC 0&&eqN x.xs.length x.Q8&&J1 (x.Q8+1) 24 then some (inl ⟨x.Qc,x.QV,0,x.Q8+1,x.Q7,x.n,x.i,x.k,x.nx,x.os,x.m,i64.wrap (x.j+1),x.gs,x.Q0,x.Q1,x.Q4,x.Q3,x.QF,x.QG,x.QP,x.value,x.other,x.xs++[(x.k,false,x.os[x.j.toNat]?.getD 0)]⟩) else none else none else some (inr ⟨x.Qc,x.QV,x.QC,x.Q8,x.Q7,x.n,x.i,x.k,x.nx,x.gs,x.Q0,x.Q1,x.Q4,x.Q3,x.QF,x.QG,x.QP,x.value,x.other,x.xs⟩)
def l1:QT:=Qa 1 p1 (.exit 2) q1 s1
def l1_ok  :QO prog 74 none 1 (C31.QR 1) l1:=lc cl 2 (J2 [(2,l2)]) QX.nil
structure p0X where(Qc QV QC Q8:Nat)(Q7:List (TI×TI))(n i:Int)(gs:List (TI×TI))(Q0:TN)(Q1:TS)(Q4:TM)(Q3:TI)(QF QG QP value other:Int)(xs:List ((Int)×(Bool)×Int))
def p0:Pt p0X:=⟨[.reg 9 (.pair (.int .i64) (.pair .bool (.int .i64)))],⟨[(3,.c (.sl 0 0 2)),(4,.c (.ptr 1 0)),(5,.c (.ptr 2 0)),(9,.c (.sl 3 0 3)),(21,.c (.arr (.pair (.sl lB) (.sl lB)))),(22,cI),(23,cI)],[.arr (.pair (.sl lB) (.sl lB)) 0,oC,oG,.arr (.pair lI (.pair .bool lI)) 0]⟩,λ(((a,b),_,_,(c,d),e,f,g,_),h,(i,j,k,l,_),(m,n,o,p,q,_),r,_)=>⟨a,b,c,d,e,f,g,h,i,j,k,l,m,n,o,p,q,r⟩,λx=>(((x.Qc,x.QV),((),((),((x.QC,x.Q8),(x.Q7,(x.n,(x.i,()))))))),(x.gs,((x.Q0,(x.Q1,(x.Q4,(x.Q3,())))),((x.QF,(x.QG,(x.QP,(x.value,(x.other,()))))),(x.xs,())))))⟩
structure q0X where(QC Q8:Nat)(gs:List (TI×TI))(xs:List ((Int)×(Bool)×Int))
def q0:Pt q0X:=⟨[],⟨[(9,.c (.sl 3 0 3))],[.arr (.pair (.sl lB) (.sl lB)) 0,.st [jk,jk,jk,jk] 1 0,.st [jk,jk,jk,jk,jk] 1 0,.arr (.pair lI (.pair .bool lI)) 0]⟩,λ(((a,b),_),c,_,_,d,_)=>⟨a,b,c,d⟩,λx=>(((x.QC,x.Q8),()),(x.gs,(((),((),((),((),())))),(((),((),((),((),((),()))))),(x.xs,())))))⟩
def s0(x:p0X):Option (p0X⊕q0X):=bif decide (x.i<x.n) then bif inR x.i x.Q7.length then bindO (M16.m ⟨x.Q0,x.Q1,x.Q4,x.Q3,x.QF,x.QG,x.QP,x.value,x.other,(x.Q7[x.i.toNat]?.getD ([],[])).1,(x.Q7[x.i.toNat]?.getD ([],[])).2⟩) λy=>bif inR x.i x.QV then bif decide (x.Qc+x.i.toNat<x.gs.length) then bindO (M65.m ⟨(x.gs[x.Qc+x.i.toNat]?.getD ([],[])).1,(x.gs[x.Qc+x.i.toNat]?.getD ([],[])).2,y.1,y.2.1⟩) λy=>bindO (iter s1 ⟨x.Qc,x.QV,x.QC,x.Q8,x.Q7,x.n,x.i,x.i,y.2,y.1,(y.1.length:Int),0,x.gs,x.Q0,x.Q1,x.Q4,x.Q3,x.QF,x.QG,x.QP,x.value,x.other,x.xs⟩) λy=>bindO (iter s2 ⟨y.Qc,y.QV,y.QC,y.Q8,y.Q7,y.n,y.i,y.k,y.nx,(y.nx.length:Int),0,y.gs,y.Q0,y.Q1,y.Q4,y.Q3,y.QF,y.QG,y.QP,y.value,y.other,y.xs⟩) λy=>some (inl ⟨y.Qc,y.QV,y.QC,y.Q8,y.Q7,y.n,i64.wrap (y.i+1),y.gs,y.Q0,y.Q1,y.Q4,y.Q3,y.QF,y.QG,y.QP,y.value,y.other,y.xs⟩) else none else none else none else some (inr ⟨x.QC,x.Q8,x.gs,x.xs⟩)
def l0:QT:=Qa 1 p0 (.exit 0) q0 s0
def l0_ok  :QO prog 74 none 1 (C31.QR 0) l0:=lc cl 1 (J2 [(1,l1),(2,l2)]) (ac 1 l1_ok (ac 2 l2_ok QX.nil))
def m(x:gX):Option fY:=bindO (iter s0 ⟨x.Qc,x.QV,0,0,x.Q7,(x.Q7.length:Int),0,x.gs,x.Q0,x.Q1,x.Q4,x.Q3,x.QF,x.QG,x.QP,x.value,x.other,[]⟩) λy=>bindO (M66o.m ⟨y.QC,y.Q8,y.xs⟩) λy_1=>bif leB (y_1.1+y_1.2.1) y_1.2.2.2.length&&true&&true then some (List.take y_1.2.1 (List.drop y_1.1 y_1.2.2.2),y.gs) else none
def known:QQ prog 31 g f m:=
 kc cl s31 (J2 [(0,l0),(1,l1),(2,l2)]) (ac 0 l0_ok QX.nil)
def con:Con:=Y2 g [.arg 3 0] f m default
def con_ok:J4 prog 31 con:=JY known
end M31
namespace M9
structure gX where(Q0:TN)(Q1:TS)(Q4:TM)(Q3:TI)(l:List ((Int)×(Int)×(Int)×(Int)×Int))(Q7:List (TI×TI))
def g:Sg gX:=⟨[.agg cir4,.c (.arr (.pair lB (.pair lI (.pair lI (.pair lB lI))))),.c (.arr (.pair (.sl lB) (.sl lB)))],[],λa b=>⟨a.1.1,a.1.2.1,a.1.2.2.1,a.1.2.2.2.1,a.2.1,a.2.2.1⟩,λx=>((x.Q0,(x.Q1,(x.Q4,(x.Q3,())))),(x.l,(x.Q7,()))),λx=>()⟩
abbrev fY:=(List (List ((Int)×(Bool)×Int)))×Int
def f:Ft fY:=⟨none,.tup [.inl (.arr (.sl (.pair lI (.pair .bool lI)))),.inl (iI)],[],λa b=>(a.1,a.2.1),λy=>(y.1,(y.2,())),λy=>()⟩
def cl:List CK:=[ck M30.known,ck M15.known,⟨31,M31.con,M31.con_ok⟩]
structure p1X where(Q7:List (TI×TI))(Qc QV QC Q8 Qj:Nat)(l:List ((Int)×(Int)×(Int)×(Int)×Int))(n i:Int)(Q0:TN)(Q1:TS)(Q4:TM)(Q3:TI)(gs:List (TI×TI))(xs:List (List ((Int)×(Bool)×Int)))
def p1:Pt p1X:=⟨[],⟨[(2,.c (.arr (.pair (.sl lB) (.sl lB)))),(3,cP),(9,.c (.sl 1 0 2)),(15,.c (.slc 2 0 1)),(46,.c (.arr (.pair lB (.pair lI (.pair lI (.pair lB lI)))))),(47,cI),(48,cI)],[oC,.arr (.pair (.sl lB) (.sl lB)) 0,.arr (.sl (.pair lI (.pair .bool lI))) 0]⟩,λ((a,_,(b,c),(d,e,f),g,h,i,_),(j,k,l,m,_),n,o,_)=>⟨a,b,c,d,e,f,g,h,i,j,k,l,m,n,o⟩,λx=>((x.Q7,((),((x.Qc,x.QV),((x.QC,x.Q8,x.Qj),(x.l,(x.n,(x.i,()))))))),((x.Q0,(x.Q1,(x.Q4,(x.Q3,())))),(x.gs,(x.xs,()))))⟩
structure q1X where(QC Q8 Qj:Nat)(gs:List (TI×TI))(xs:List (List ((Int)×(Bool)×Int)))
def q1:Pt q1X:=⟨[],⟨[(15,.c (.slc 2 0 1))],[.st [jk,jk,jk,jk] 1 0,.arr (.pair (.sl lB) (.sl lB)) 0,.arr (.sl (.pair lI (.pair .bool lI))) 0]⟩,λ(((a,b,c),_),_,d,e,_)=>⟨a,b,c,d,e⟩,λx=>(((x.QC,x.Q8,x.Qj),()),(((),((),((),((),())))),(x.gs,(x.xs,()))))⟩
def s1(x:p1X):Option (p1X⊕q1X):=bif decide (x.i<x.n) then bif inR x.i x.l.length then bindO (M31.m ⟨x.Q0,x.Q1,x.Q4,x.Q3,(x.l[x.i.toNat]?.getD (0,0,0,0,0)).1,(x.l[x.i.toNat]?.getD (0,0,0,0,0)).2.1,(x.l[x.i.toNat]?.getD (0,0,0,0,0)).2.2.1,(x.l[x.i.toNat]?.getD (0,0,0,0,0)).2.2.2.1,(x.l[x.i.toNat]?.getD (0,0,0,0,0)).2.2.2.2,x.Q7,x.Qc,x.QV,x.gs⟩) λy=>bif inR x.i x.Q8 then bif decide (x.QC+x.i.toNat<x.xs.length) then some (inl ⟨x.Q7,x.Qc,x.QV,x.QC,x.Q8,x.Qj,x.l,x.n,i64.wrap (x.i+1),x.Q0,x.Q1,x.Q4,x.Q3,y.2,x.xs.set (x.QC+x.i.toNat) y.1⟩) else none else none else none else some (inr ⟨x.QC,x.Q8,x.Qj,x.gs,x.xs⟩)
def l1:QT:=Qa 0 p1 (.exit 2) q1 s1
def l1_ok  :QO prog 63 none 0 (C9.QR 1) l1:=lc cl 2 (λ_=>none) QX.nil
structure p0X where(l:List ((Int)×(Int)×(Int)×(Int)×Int))(Q7:List (TI×TI))(Qc QV:Nat)(ts:List (TI×TI))(n i:Int)(Q0:TN)(Q1:TS)(Q4:TM)(Q3:TI)(xs:List (TI×TI))
def p0:Pt p0X:=⟨[.reg 9 (.pair (.sl (.int .u8)) (.sl (.int .u8)))],⟨[(1,.c (.arr (.pair lB (.pair lI (.pair lI (.pair lB lI)))))),(2,.c (.arr (.pair (.sl lB) (.sl lB)))),(3,cP),(9,.c (.sl 1 0 2)),(25,.c (.arr (.pair (.sl lB) (.sl lB)))),(26,cI),(27,cI)],[oC,.arr (.pair (.sl lB) (.sl lB)) 0]⟩,λ((a,b,_,(c,d),e,f,g,_),(h,i,j,k,_),l,_)=>⟨a,b,c,d,e,f,g,h,i,j,k,l⟩,λx=>((x.l,(x.Q7,((),((x.Qc,x.QV),(x.ts,(x.n,(x.i,()))))))),((x.Q0,(x.Q1,(x.Q4,(x.Q3,())))),(x.xs,())))⟩
structure q0X where(l:List ((Int)×(Int)×(Int)×(Int)×Int))(Q7:List (TI×TI))(Qc QV:Nat)(Q0:TN)(Q1:TS)(Q4:TM)(Q3:TI)(xs:List (TI×TI))
def q0:Pt q0X:=⟨[],⟨[(1,.c (.arr (.pair lB (.pair lI (.pair lI (.pair lB lI)))))),(2,.c (.arr (.pair (.sl lB) (.sl lB)))),(3,cP),(9,.c (.sl 1 0 2))],[oC,.arr (.pair (.sl lB) (.sl lB)) 0]⟩,λ((a,b,_,(c,d),_),(e,f,g,h,_),i,_)=>⟨a,b,c,d,e,f,g,h,i⟩,λx=>((x.l,(x.Q7,((),((x.Qc,x.QV),())))),((x.Q0,(x.Q1,(x.Q4,(x.Q3,())))),(x.xs,())))⟩
def s0(x:p0X):Option (p0X⊕q0X):=bif decide (x.i<x.n) then bif inR x.i x.ts.length then bindO (M15.m ⟨x.Q0,x.Q1,x.Q4,x.Q3,(x.ts[x.i.toNat]?.getD ([],[])).1,(x.ts[x.i.toNat]?.getD ([],[])).2⟩) λy=>bif eqN x.Qc 0&&eqN x.xs.length x.QV&&J1 (x.QV+1) 48 then some (inl ⟨x.l,x.Q7,0,x.QV+1,x.ts,x.n,i64.wrap (x.i+1),x.Q0,x.Q1,x.Q4,x.Q3,x.xs++[(y.1,y.2.1)]⟩) else none else none else some (inr ⟨x.l,x.Q7,x.Qc,x.QV,x.Q0,x.Q1,x.Q4,x.Q3,x.xs⟩)
def l0:QT:=Qa 0 p0 (.exit 0) q0 s0
def l0_ok  :QO prog 63 none 0 (C9.QR 0) l0:=lc cl 1 (J2 [(1,l1)]) QX.nil
def m(x:gX):Option fY:=bindO (M30.m ⟨x.Q0,x.Q1,x.Q4,x.Q3,x.l,x.Q7⟩) λy=>bif y !=0 then some ([],y) else bindO (iter s0 ⟨x.l,x.Q7,0,0,x.Q7,(x.Q7.length:Int),0,x.Q0,x.Q1,x.Q4,x.Q3,[]⟩) λy=>bif decide (0<=(y.l.length:Int))&&decide ((y.l.length:Int)<=(y.l.length:Int))&&decide ((y.l.length:Int)*(↑24:Int)<=281474976710656)&&decide ((y.l.length:Int)<=9223372036854775807) then bindO (iter s1 ⟨y.Q7,y.Qc,y.QV,0,(y.l.length:Int).toNat,(y.l.length:Int).toNat,y.l,(y.l.length:Int),0,y.Q0,y.Q1,y.Q4,y.Q3,y.xs,List.replicate (y.l.length:Int).toNat []⟩) λy=>bif leB (y.QC+y.Q8) y.xs.length&&true&&true&&true then some (List.take y.Q8 (List.drop y.QC y.xs),0) else none else none
def known:QQ prog 9 g f m:=
 kc cl s9 (J2 [(0,l0),(1,l1)]) (ac 0 l0_ok (ac 1 l1_ok QX.nil))
end M9
namespace Co
def lnP(N:NodeL)(k j:Nat):List (Int×Int):=(List.range j).map λp:Nat=>((k:Int),(p:Int) - 1)
def lnN(N:NodeL):Nat->List (Int×Int)
 |0=>[]
 |i+1=>lnN N i++lnP N i ((pn N i).length+1)
abbrev FT:=Int×Int×Int×Int×Int
def fl2(x:Int×Int):List FT:=[(0,x.1,x.2,0,0),(0,x.1,x.2,1,0)]
def flN(N:NodeL):List FT:=(lnN N N.length).flatMap fl2
def lnP_len{N:NodeL}{k j:Nat}:(lnP N k j).length=j:=by simp[lnP]
def lnP_succ{N:NodeL}{k j:Nat}:lnP N k (j+1)=lnP N k j++[((k:Int),(j:Int) - 1)]:=by simp[lnP,Br]
def lnN_len{N:NodeL}:∀i,2*(lnN N i).length=fst N i
 |0=>rfl
 |i+1=>by have ih:=lnN_len (N:=N) i;have h2:fst N (i+1)=fst N i+2*((pn N i).length+1):=rfl;have h3:lnN N (i+1)=lnN N i++lnP N i ((pn N i).length+1):=rfl;rw[h3,AG,lnP_len,h2];omega
def lnN_at{N:NodeL}{i p:Nat}(hp:p<=(pn N i).length):∀n,i<n->(lnN N n)[(lnN N i).length+p]? =some ((i:Int),(p:Int) - 1)
 |n+1,h=>by
  have h3:lnN N (n+1)=lnN N n++lnP N n ((pn N n).length+1):=rfl;rw[h3];by_cases e:i=n
  ·subst e;rw[AU (by omega),show(lnN N i).length+p - (lnN N i).length=p by omega];simp[lnP,Nat.lt_succ_of_le hp]
  ·have ih:=lnN_at hp n (by omega);rw[AL (AD.1 ih).1];exact ih
def fl2_at:∀(L:List (Int×Int)) (k v:Nat) {x:Int×Int},v<=1->L[k]? =some x->(L.flatMap fl2)[2*k+v]? =some (0,x.1,x.2,(v:Int),0)
 |[],k,v,x,_,h=>by simp at h
 |a::L,0,v,x,hv,h=>by
  have h:a=x:=(by simpa using h);subst h
  match v,hv with
  |0,_=>rfl
  |1,_=>rfl
 |a::L,k+1,v,x,hv,h=>by have:=fl2_at L k v hv (x:=x) (by simpa using h);rw[Ac,AU (by show 2<=_;omega)];have e:(fl2 a).length=2:=rfl;rw[e,show 2*(k+1)+v - 2=2*k+v by omega];exact this
def fl2_len:∀L:List (Int×Int),(L.flatMap fl2).length=2*L.length
 |[]=>rfl
 |a::L=>by have e:(fl2 a).length=2:=rfl;rw[Ac,AG,fl2_len L,e,As];omega
def flN_len{N:NodeL}:(flN N).length=fst N N.length:=by unfold flN;rw[fl2_len,lnN_len]
def flN_at{N:NodeL}{i p v:Nat}(hi:i<N.length)(hp:p<=(pn N i).length)(hv:v<=1):(flN N)[num N i p v]? =some (0,(i:Int),(p:Int) - 1,(v:Int),0):=by
 have h1:=fl2_at _ _ v hv (lnN_at hp N.length hi);have h2:=lnN_len (N:=N) i;have e:num N i p v=2*((lnN N i).length+p)+v:=by unfold num;omega
 rw[e];exact h1
def num_all{N:NodeL}:∀n k,k<fst N n->∃i p v,i<n/\p<=(pn N i).length/\v<=1/\k=num N i p v
 |0,k,h=>by cases h
 |n+1,k,h=>by
  have h2:fst N (n+1)=fst N n+2*((pn N n).length+1):=rfl;by_cases hk:k<fst N n
  ·obtain⟨i,p,v,h3,h4⟩:=num_all n k hk;exact⟨i,p,v,by omega,h4⟩
  ·exact⟨n,(k - fst N n) / 2,(k - fst N n)%2,by omega,by omega,by omega,by unfold num;omega⟩
def FaL(N:NodeL)(l:List FT):Prop:=∀f∈l,f.1=0/\f.2.2.2.2=0/\Fa N f.2.1 f.2.2.1 f.2.2.2.1
def flN_fa{N:NodeL}:FaL N (flN N):=λf hf=>by
 obtain⟨k,hk,rfl⟩:=BB hf;have hk':=hk;rw[flN_len]at hk';obtain⟨i,p,v,h1,h2,h3,rfl⟩:=num_all _ _ hk';have h4:=flN_at h1 h2 h3;rw[A4 hk]at h4;rw[BA h4];refine⟨rfl,rfl,⟨by show 0<=(i:Int);omega,by show(i:Int)<_;omega⟩,?_,?_,?_⟩
 ·show -1<=(p:Int) - 1;omega
 ·show(p:Int) - 1<(pn N (i:Int).toNat).length;rw[AA];omega
 ·show(v:Int)=0\/(v:Int)=1;omega
section
variable {N:NodeL}{A:List (List UInt8)}{C:List Int}
def m56{xs:List (Int×Int)}(h:xs.length<=1000000):M56o.m ⟨0,xs.length,xs⟩=some (0,xs.length,xs.length,xs):=by unfold M56o.m;have c1:decide (0<=(xs.length:Int))=true:=AB (by omega);have c2:decide ((xs.length:Int)<=(xs.length:Int))=true:=AB (by omega);simp only[c1,c2,AA,AH,A6]
def m24(h:Ck N A C)(ht:Topo N):M24.m ⟨N,A,[],C⟩=some (lnN N N.length,0):=by
 have hN:=h.few;have lb:∀i,i<=N.length->(lnN N i).length<=323:=λi hi=>by have h1:=fst_646 h hi;have h2:=lnN_len (N:=N) i;omega
 have k1:∀i,i<N.length->iter M24.s1 { QC:=0,Q8:=(lnN N i).length,ns:=N,m:=(N.length:Int),i:=(i:Int),n:=(i:Int),q:=((pn N i).length:Int)+1,j:=0,Q0:=N,Q1:=A,Q4:=[],Q3:=C,xs:=lnN N i }=some { QC:=0,Q8:=(lnN N (i+1)).length,ns:=N,m:=(N.length:Int),i:=(i:Int),Q0:=N,Q1:=A,Q4:=[],Q3:=C,xs:=lnN N (i+1) }:=λi hi=>by
  have hpl:=(h.pins (i:=(i:Int)) ⟨by omega,by omega⟩).1;rw[AA]at hpl;have hlb:=lb i (by omega)
  have key:=iter_count (step:=M24.s1) (λj=>{ QC:=0,Q8:=(lnN N i).length+j,ns:=N,m:=(N.length:Int),i:=(i:Int),n:=(i:Int),q:=((pn N i).length:Int)+1,j:=(j:Int),Q0:=N,Q1:=A,Q4:=[],Q3:=C,xs:=lnN N i++lnP N i j }) (y:={ QC:=0,Q8:=(lnN N (i+1)).length,ns:=N,m:=(N.length:Int),i:=(i:Int),Q0:=N,Q1:=A,Q4:=[],Q3:=C,xs:=lnN N (i+1) }) ((pn N i).length+1) (λj hj=>by
   have c1:=ilt (a:=(j:Int)) (b:=((pn N i).length:Int)+1) (by omega);have w1:i64.wrap ((j:Int) - 1)=(j:Int) - 1:=w64 (by omega) (by omega);have hl:(lnN N i++lnP N i j).length=(lnN N i).length+j:=(by rw[AG,lnP_len]);unfold M24.s1;simp only[c1,A6,eqN_of rfl,eqN_of hl,room (n:=(lnN N i).length+j+1) (b:=16) (by omega) (by omega),AH,w1,suc (i:=j) (by omega),lnP_succ,Ad];rfl) (by
   have c1:=inlt (a:=(((pn N i).length+1:Nat):Int)) (b:=((pn N i).length:Int)+1) (by omega);have hl:(lnN N (i+1)).length=(lnN N i).length+((pn N i).length+1):=(by show(lnN N i++lnP N i _).length=_;rw[AG,lnP_len]);unfold M24.s1;simp only[c1,A7,hl];rfl)
  have e0:lnN N i++lnP N i 0=lnN N i:=(by simp[lnP]);rw[e0,BK]at key;exact key
 have k0:=iter_count (step:=M24.s0) (λi=>{ QC:=0,Q8:=(lnN N i).length,ns:=N,m:=(N.length:Int),i:=(i:Int),Q0:=N,Q1:=A,Q4:=[],Q3:=C,xs:=lnN N i }) (y:={ QC:=0,Q8:=(lnN N N.length).length,xs:=lnN N N.length }) N.length (λi hi=>by
  have c1:=ilt (a:=(i:Int)) (b:=(N.length:Int)) (by omega);have e5:(N[i]?.getD (0,[],0,0)).2.1=pn N i:=rfl;have hpl:=(h.pins (i:=(i:Int)) ⟨by omega,by omega⟩).1;rw[AA]at hpl;have w0:i64.wrap (((pn N i).length:Int)+1)=((pn N i).length:Int)+1:=w64 (by omega) (by omega);unfold M24.s0;simp only[c1,inR_nat hi,A6,AA,e5,w0,k1 i hi,bindO,suc (i:=i) (by omega)]) (by
  have c1:=inlt (a:=(N.length:Int)) (b:=(N.length:Int)) (by omega);unfold M24.s0;simp only[c1,A7])
 have k0':iter M24.s0 { QC:=0,Q8:=0,ns:=N,m:=(N.length:Int),i:=0,Q0:=N,Q1:=A,Q4:=[],Q3:=C,xs:=[] }=_:=k0;have hl:=lb N.length (A5 _);unfold M24.m;simp only[m55 h ht,bindO,BE,A7,k0',m56 (xs:=lnN N N.length) (by omega),AF,leB_of (A5 _),AH,A6,AW,Aa]
def m59f(h:Ck N A C)(ht:Topo N){f:FT}(hf:f.1=0/\f.2.2.2.2=0/\Fa N f.2.1 f.2.2.1 f.2.2.2.1):M59.m ⟨N,A,[],C,f.1,f.2.1,f.2.2.1,f.2.2.2.1,f.2.2.2.2⟩=some 0:=by obtain⟨h1,h2,h3⟩:=hf;rw[h1,h2];exact m59 h ht h3
def m27(h:Ck N A C)(ht:Topo N){l:List FT}(hl:l.length<=65536)(hf:FaL N l):M27.m ⟨N,A,[],C,l⟩=some 0:=by
 have k0:=iter_count (step:=M27.s0) (λi=>{ l:=l,n:=(l.length:Int),i:=(i:Int),Q0:=N,Q1:=A,Q4:=[],Q3:=C }) (y:=.inl ()) l.length (λi hi=>by
  have c1:=ilt (a:=(i:Int)) (b:=(l.length:Int)) (by omega);have e:l[i]?.getD (0,0,0,0,0)=l[i]:=(by rw[A4 hi];rfl);unfold M27.s0;simp only[c1,inR_nat hi,A6,AA,e,m59f h ht (hf _ (A9 hi)),bindO,BE,A7,suc (i:=i) (by omega)]) (by
  have c1:=inlt (a:=(l.length:Int)) (b:=(l.length:Int)) (by omega);unfold M27.s0;simp only[c1,A7])
 have k0':iter M27.s0 { l:=l,n:=(l.length:Int),i:=0,Q0:=N,Q1:=A,Q4:=[],Q3:=C }=_:=k0;have c:decide ((l.length:Int)>65536)=false:=AM (by omega);unfold M27.m;simp only[c,A7,m24 h ht,bindO,BE,k0',sumC]
def m63(h:Ck N A C):∃n:Int,M63.m ⟨N,A,[],C⟩=some n/\0<=n/\n<=(C.length:Int)+19:=by
 have hN:=h.few;have hC:=h.fewC;obtain⟨y,h1,n,rfl,h3⟩:=iter_inv (step:=M63.s0) (λx=>∃(i:Nat) (n:Int),x=({ n:=n,ns:=N,m:=(N.length:Int),i:=(i:Int) }:M63.p0X)/\i<=N.length/\0<=n/\n<=(C.length:Int)+i) (λx=>N.length - x.i.toNat)
  (λy=>∃n:Int,y=(⟨n⟩:M63.q0X)/\0<=n/\n<=(C.length:Int)+19) (by
   rintro x ⟨i,n,rfl,hi,h0,hn⟩;unfold M63.s0;by_cases hlt:i<N.length
   ·have c1:=ilt (a:=(i:Int)) (b:=(N.length:Int)) (by omega);simp only[c1,inR_nat hlt,A6,AA,suc (i:=i) (by omega)];refine⟨_,rfl,⟨i+1,_,rfl,hlt,?_⟩,by simp;omega⟩
    cases (N[i]?.getD (0,[],0,0)).1==14 with
    |true=>have w:i64.wrap (n+1)=n+1:=w64 (by omega) (by omega);simp only[A6,w];omega
    |false=>simp only[A7];omega
   ·have c1:=inlt (a:=(i:Int)) (b:=(N.length:Int)) (by omega);simp only[c1,A7]
    exact⟨_,rfl,n,rfl,h0,by omega⟩) { n:=(C.length:Int),ns:=N,m:=(N.length:Int),i:=((0:Nat):Int) } ⟨0,_,rfl,Af _,by omega,by omega⟩
 refine⟨n,?_,h3⟩;unfold M63.m;have h1':iter M63.s0 { n:=(C.length:Int),ns:=N,m:=(N.length:Int),i:=0 }=_:=h1;simp only[h1',bindO]
abbrev PatL(N:NodeL)(Q7:List (List Int×List Int)):Prop:=∀t∈Q7,Pat N t.1 t.2
def m30(h:Ck N A C)(ht:Topo N)(hC:C.length<=40){l:List FT}(hl:l.length<=700)(hf:FaL N l){Q7:List (List Int×List Int)}(h20:Q7.length<=20)(hT:PatL N Q7):
  M30.m ⟨N,A,[],C,l,Q7⟩=some 0:=by
 have k0:=iter_count (step:=M30.s0) (λi=>{ Q7:=Q7,l:=l,n:=(l.length:Int),i:=(i:Int),Q0:=N,Q1:=A,Q4:=[],Q3:=C }) (y:=.inl { Q7:=Q7,Q0:=N,Q1:=A,Q4:=[],Q3:=C }) l.length (λi hi=>by
  have c1:=ilt (a:=(i:Int)) (b:=(l.length:Int)) (by omega);have e:l[i]?.getD (0,0,0,0,0)=l[i]:=(by rw[A4 hi];rfl);have hfi:=hf _ (A9 hi);have c2:(l[i].1==1)=false:=(by rw[hfi.1];rfl);unfold M30.s0;simp only[c1,inR_nat hi,A6,AA,e,m59f h ht hfi,bindO,BE,A7,c2,suc (i:=i) (by omega)]) (by
  have c1:=inlt (a:=(l.length:Int)) (b:=(l.length:Int)) (by omega);unfold M30.s0;simp only[c1,A7])
 have k1:=iter_count (step:=M30.s1) (λi=>{ Q7:=Q7,n:=(Q7.length:Int),i:=(i:Int),Q0:=N,Q1:=A,Q4:=[],Q3:=C }) (y:=.inl ()) Q7.length (λi hi=>by
  have c1:=ilt (a:=(i:Int)) (b:=(Q7.length:Int)) (by omega);have e:Q7[i]?.getD ([],[])=Q7[i]:=(by rw[A4 hi];rfl);have hti:=hT _ (A9 hi);have c2:M64.m ⟨N,A,[],C,Q7[i].1,Q7[i].2⟩=some 0:=(by unfold M64.m;simp only[m98 h ht,bindO,BE,A7,m41 h hti]);unfold M30.s1;simp only[c1,inR_nat hi,A6,AA,e,c2,bindO,BE,A7,suc (i:=i) (by omega)]) (by
  have c1:=inlt (a:=(Q7.length:Int)) (b:=(Q7.length:Int)) (by omega);unfold M30.s1;simp only[c1,A7])
 obtain⟨n,q1,q2,q3⟩:=m63 h;have k0':iter M30.s0 { Q7:=Q7,l:=l,n:=(l.length:Int),i:=0,Q0:=N,Q1:=A,Q4:=[],Q3:=C }=_:=k0;have k1':iter M30.s1 { Q7:=Q7,n:=(Q7.length:Int),i:=0,Q0:=N,Q1:=A,Q4:=[],Q3:=C }=_:=k1;have c1:decide ((l.length:Int)>65536)=false:=AM (by omega);have c2:decide ((Q7.length:Int)>4096)=false:=AM (by omega);have p1:(l.length:Int)*(Q7.length:Int)<=700*20:=Int.mul_le_mul (by omega) (by omega) (by omega) (by omega);have p0:0<=(l.length:Int)*(Q7.length:Int):=Int.mul_nonneg (by omega) (by omega);have w1:i64.wrap ((l.length:Int)*(Q7.length:Int))=(l.length:Int)*(Q7.length:Int):=w64 (by omega) (by omega);have p2:(l.length:Int)*(Q7.length:Int)*n<=700*20*59:=Int.mul_le_mul p1 (by omega) q2 (by omega);have p3:0<=(l.length:Int)*(Q7.length:Int)*n:=Int.mul_nonneg p0 q2;have w2:i64.wrap ((l.length:Int)*(Q7.length:Int)*n)=(l.length:Int)*(Q7.length:Int)*n:=w64 (by omega) (by omega);have c3:decide ((l.length:Int)*(Q7.length:Int)*n>1048576)=false:=AM (by omega);unfold M30.m;simp only[c1,c2,A7,Bc,A6,q1,bindO,w1,w2,c3,m24 h ht,BE,k0',sumC,k1']
def ent(k:Nat)(g b:List Int×List Int):List (Int×Bool×Int):=((ctr g.1 b.1 g.1.length).map λj=>((k:Int),false,j))++((ctr g.2 b.2 g.2.length).map λj=>((k:Int),true,j))
def lgN(gs bs:Nat->List Int×List Int):Nat->List (Int×Bool×Int)
 |0=>[]
 |i+1=>lgN gs bs i++ent i (gs i) (bs i)
def ent_len{k:Nat}{g b:List Int×List Int}:(ent k g b).length<=g.1.length+g.2.length:=by have h1:=ctr_len (a:=g.1) (b:=b.1) (i:=g.1.length);have h2:=ctr_len (a:=g.2) (b:=b.2) (i:=g.2.length);simp only[ent,AG,AE];omega
def lgN_len{gs bs:Nat->List Int×List Int}(hg:∀i,(gs i).1.length+(gs i).2.length<=100):∀i,(lgN gs bs i).length<=i*100
 |0=>Af _
 |i+1=>by have h1:=lgN_len hg (bs:=bs) i;have h2:=ent_len (k:=i) (g:=gs i) (b:=bs i);have h3:=hg i;have e:lgN gs bs (i+1)=lgN gs bs i++ent i (gs i) (bs i):=rfl;rw[e,AG];omega
def rspG(N:NodeL)(C o b:List Int):List Int×List Int:=(outsV C (sim good N o b),nexts good N (sim good N o b))
def m66{xs:List (Int×Bool×Int)}(h:xs.length<=1000000):M66o.m ⟨0,xs.length,xs⟩=some (0,xs.length,xs.length,xs):=by unfold M66o.m;have c1:decide (0<=(xs.length:Int))=true:=AB (by omega);have c2:decide ((xs.length:Int)<=(xs.length:Int))=true:=AB (by omega);simp only[c1,c2,AA,AH,A6]
abbrev tAt(Q7:List (List Int×List Int))(i:Nat):List Int×List Int:=Q7[i]?.getD ([],[])
def lgF(N:NodeL)(C o:List Int)(Q7:List (List Int×List Int))(f:FT)(i:Nat):List (Int×Bool×Int):=
 lgN (λk=>rspG N C o (base N (tAt Q7 k).1 (tAt Q7 k).2)) (λk=>rsp N C o f.2.1 f.2.2.1 f.2.2.2.1 (base N (tAt Q7 k).1 (tAt Q7 k).2)) i
def lgF_len{o:List Int}(hC:C.length<=40)(hN:N.length<=19){Q7:List (List Int×List Int)}{f:FT}(i:Nat):(lgF N C o Q7 f i).length<=i*100:=
 lgN_len (λk=>by
  have:(ofK N 14).length<=N.length:=ofN_len;simp only[rspG,outsV,nexts,AE];omega) i
def m31{o:List Int}(R:Runs N A C o)(hC:C.length<=40){f:FT}(hf:f.1=0/\f.2.2.2.2=0/\Fa N f.2.1 f.2.2.1 f.2.2.2.1){Q7:List (List Int×List Int)}(h20:Q7.length<=20)(hT:PatL N Q7){gs:List (List Int×List Int)}
  (hg:gs=Q7.map λt=>rspG N C o (base N t.1 t.2)):
  M31.m ⟨N,A,[],C,f.1,f.2.1,f.2.2.1,f.2.2.2.1,f.2.2.2.2,Q7,0,Q7.length,gs⟩=some (lgF N C o Q7 f Q7.length,gs):=by
 have hN:=R.ck.few;have lK:(ofK N 14).length<=N.length:=ofN_len;obtain⟨f1,f2,f3⟩:=hf;obtain⟨md,ln,lp,vl,ot⟩:=f;obtain rfl:md=0:=f1;obtain rfl:ot=0:=f2;have f3:Fa N ln lp vl:=f3;have LL:=λi=>lgF_len (N:=N) (C:=C) (o:=o) (Q7:=Q7) (f:=(0,ln,lp,vl,0)) hC hN i;have k1:∀(i:Nat) (xs:List (Int×Bool×Int)) (os nx:List Int),xs.length<=2000->os.length<=100->iter M31.s1 { Qc:=0,QV:=Q7.length,QC:=0,Q8:=xs.length,Q7:=Q7,n:=(Q7.length:Int),i:=(i:Int),k:=(i:Int),nx:=nx,os:=os,m:=(os.length:Int),j:=0,gs:=gs,Q0:=N,Q1:=A,Q4:=[],Q3:=C,QF:=0,QG:=ln,QP:=lp,value:=vl,other:=0,xs:=xs }=
   some { Qc:=0,QV:=Q7.length,QC:=0,Q8:=(xs++os.map λj=>((i:Int),false,j)).length,Q7:=Q7,n:=(Q7.length:Int),i:=(i:Int),k:=(i:Int),nx:=nx,gs:=gs,Q0:=N,Q1:=A,Q4:=[],Q3:=C,QF:=0,QG:=ln,QP:=lp,value:=vl,other:=0,xs:=xs++os.map λj=>((i:Int),false,j) }:=λi xs os nx hx ho=>by
  have key:=iter_count (step:=M31.s1) (λj=>{ Qc:=0,QV:=Q7.length,QC:=0,Q8:=xs.length+j,Q7:=Q7,n:=(Q7.length:Int),i:=(i:Int),k:=(i:Int),nx:=nx,os:=os,m:=(os.length:Int),j:=(j:Int),gs:=gs,Q0:=N,Q1:=A,Q4:=[],Q3:=C,QF:=0,QG:=ln,QP:=lp,value:=vl,other:=0,xs:=xs++(os.take j).map λj=>((i:Int),false,j) }) (y:={ Qc:=0,QV:=Q7.length,QC:=0,Q8:=(xs++os.map λj=>((i:Int),false,j)).length,Q7:=Q7,n:=(Q7.length:Int),i:=(i:Int),k:=(i:Int),nx:=nx,gs:=gs,Q0:=N,Q1:=A,Q4:=[],Q3:=C,QF:=0,QG:=ln,QP:=lp,value:=vl,other:=0,xs:=xs++os.map λj=>((i:Int),false,j) }) os.length (λj hj=>by
   have c1:=ilt (a:=(j:Int)) (b:=(os.length:Int)) (by omega);have hl:(xs++(os.take j).map λj=>((i:Int),false,j)).length=xs.length+j:=(by simp;omega);have hs:(os.take (j+1)).map (λj=>((i:Int),false,j))=(os.take j).map (λj=>((i:Int),false,j))++[((i:Int),false,os[j])]:=(by rw[take_succ' hj,AS];rfl);unfold M31.s1;simp only[c1,inR_nat hj,A6,eqN_of rfl,eqN_of hl,room (n:=xs.length+j+1) (b:=24) (by omega) (by omega),AH,getD_at hj,suc (i:=j) (by omega),hs,Ad];rfl) (by
   have c1:=inlt (a:=(os.length:Int)) (b:=(os.length:Int)) (by omega);unfold M31.s1;simp only[c1,A7,Aa,AG,AE])
  have e0:(xs++(os.take 0).map λj=>((i:Int),false,j))=xs:=(by simp);rw[e0,BK]at key;exact key
 have k2:∀(i:Nat) (xs:List (Int×Bool×Int)) (os:List Int),xs.length<=2100->os.length<=100->iter M31.s2 { Qc:=0,QV:=Q7.length,QC:=0,Q8:=xs.length,Q7:=Q7,n:=(Q7.length:Int),i:=(i:Int),k:=(i:Int),os:=os,m:=(os.length:Int),j:=0,gs:=gs,Q0:=N,Q1:=A,Q4:=[],Q3:=C,QF:=0,QG:=ln,QP:=lp,value:=vl,other:=0,xs:=xs }=
   some { Qc:=0,QV:=Q7.length,QC:=0,Q8:=(xs++os.map λj=>((i:Int),true,j)).length,Q7:=Q7,n:=(Q7.length:Int),i:=(i:Int),gs:=gs,Q0:=N,Q1:=A,Q4:=[],Q3:=C,QF:=0,QG:=ln,QP:=lp,value:=vl,other:=0,xs:=xs++os.map λj=>((i:Int),true,j) }:=λi xs os hx ho=>by
  have key:=iter_count (step:=M31.s2) (λj=>{ Qc:=0,QV:=Q7.length,QC:=0,Q8:=xs.length+j,Q7:=Q7,n:=(Q7.length:Int),i:=(i:Int),k:=(i:Int),os:=os,m:=(os.length:Int),j:=(j:Int),gs:=gs,Q0:=N,Q1:=A,Q4:=[],Q3:=C,QF:=0,QG:=ln,QP:=lp,value:=vl,other:=0,xs:=xs++(os.take j).map λj=>((i:Int),true,j) }) (y:={ Qc:=0,QV:=Q7.length,QC:=0,Q8:=(xs++os.map λj=>((i:Int),true,j)).length,Q7:=Q7,n:=(Q7.length:Int),i:=(i:Int),gs:=gs,Q0:=N,Q1:=A,Q4:=[],Q3:=C,QF:=0,QG:=ln,QP:=lp,value:=vl,other:=0,xs:=xs++os.map λj=>((i:Int),true,j) }) os.length (λj hj=>by
   have c1:=ilt (a:=(j:Int)) (b:=(os.length:Int)) (by omega);have hl:(xs++(os.take j).map λj=>((i:Int),true,j)).length=xs.length+j:=(by simp;omega);have hs:(os.take (j+1)).map (λj=>((i:Int),true,j))=(os.take j).map (λj=>((i:Int),true,j))++[((i:Int),true,os[j])]:=(by rw[take_succ' hj,AS];rfl);unfold M31.s2;simp only[c1,inR_nat hj,A6,eqN_of rfl,eqN_of hl,room (n:=xs.length+j+1) (b:=24) (by omega) (by omega),AH,getD_at hj,suc (i:=j) (by omega),hs,Ad];rfl) (by
   have c1:=inlt (a:=(os.length:Int)) (b:=(os.length:Int)) (by omega);unfold M31.s2;simp only[c1,A7,Aa,AG,AE])
  have e0:(xs++(os.take 0).map λj=>((i:Int),true,j))=xs:=(by simp);rw[e0,BK]at key;exact key
 have k0:=iter_count (step:=M31.s0) (λi=>{ Qc:=0,QV:=Q7.length,QC:=0,Q8:=(lgF N C o Q7 (0,ln,lp,vl,0) i).length,Q7:=Q7,n:=(Q7.length:Int),i:=(i:Int),gs:=gs,Q0:=N,Q1:=A,Q4:=[],Q3:=C,QF:=0,QG:=ln,QP:=lp,value:=vl,other:=0,xs:=lgF N C o Q7 (0,ln,lp,vl,0) i }) (y:={ QC:=0,Q8:=(lgF N C o Q7 (0,ln,lp,vl,0) Q7.length).length,gs:=gs,xs:=lgF N C o Q7 (0,ln,lp,vl,0) Q7.length }) Q7.length (λi hi=>by
  have c1:=ilt (a:=(i:Int)) (b:=(Q7.length:Int)) (by omega);have e:Q7[i]?.getD ([],[])=Q7[i]:=(by rw[A4 hi];rfl);have hti:=hT _ (A9 hi);have hgi:i<gs.length:=(by rw[hg,AE];exact hi);have eg:gs[i]?.getD ([],[])=rspG N C o (base N Q7[i].1 Q7[i].2):=(by rw[hg];simp[hi]);have h16:=m16 R f3 hti;have lg:∀F:Flt,(outsV C (sim F N o (base N Q7[i].1 Q7[i].2))).length=C.length:=λF=>(by simp[outsV]);have ln':∀F:Flt,(nexts F N (sim F N o (base N Q7[i].1 Q7[i].2))).length=(ofK N 14).length:=λF=>(by simp[nexts]);have h65:M65.m ⟨(rspG N C o (base N Q7[i].1 Q7[i].2)).1,(rspG N C o (base N Q7[i].1 Q7[i].2)).2,outsV C (sim (flt ln lp vl) N o (base N Q7[i].1 Q7[i].2)),nexts (flt ln lp vl) N (sim (flt ln lp vl) N o (base N Q7[i].1 Q7[i].2))⟩=some (ctr (rspG N C o (base N Q7[i].1 Q7[i].2)).1 (rsp N C o ln lp vl (base N Q7[i].1 Q7[i].2)).1 (rspG N C o (base N Q7[i].1 Q7[i].2)).1.length,ctr (rspG N C o (base N Q7[i].1 Q7[i].2)).2 (rsp N C o ln lp vl (base N Q7[i].1 Q7[i].2)).2 (rspG N C o (base N Q7[i].1 Q7[i].2)).2.length):=(by unfold M65.m;simp only[m108 (a:=(rspG N C o (base N Q7[i].1 Q7[i].2)).1) (b:=outsV C (sim (flt ln lp vl) N o (base N Q7[i].1 Q7[i].2))) ((lg _).trans (lg _).symm) (by show(outsV C _).length<=_;rw[lg];omega),m108 (a:=(rspG N C o (base N Q7[i].1 Q7[i].2)).2) (b:=nexts (flt ln lp vl) N (sim (flt ln lp vl) N o (base N Q7[i].1 Q7[i].2))) ((ln' _).trans (ln' _).symm) (by show(nexts _ N _).length<=_;rw[ln'];omega),bindO];rfl);have hb1:(ctr (rspG N C o (base N Q7[i].1 Q7[i].2)).1 (rsp N C o ln lp vl (base N Q7[i].1 Q7[i].2)).1 (rspG N C o (base N Q7[i].1 Q7[i].2)).1.length).length<=40:=(by refine Ao ctr_len ?_;show(outsV C _).length<=_;rw[lg];exact hC);have hb2:(ctr (rspG N C o (base N Q7[i].1 Q7[i].2)).2 (rsp N C o ln lp vl (base N Q7[i].1 Q7[i].2)).2 (rspG N C o (base N Q7[i].1 Q7[i].2)).2.length).length<=19:=(by refine Ao ctr_len ?_;show(nexts _ N _).length<=_;rw[ln'];omega);have hLi:=LL i;have hs:lgF N C o Q7 (0,ln,lp,vl,0) (i+1)=lgF N C o Q7 (0,ln,lp,vl,0) i++((ctr (rspG N C o (base N Q7[i].1 Q7[i].2)).1 (rsp N C o ln lp vl (base N Q7[i].1 Q7[i].2)).1 (rspG N C o (base N Q7[i].1 Q7[i].2)).1.length).map (λj=>((i:Int),false,j))++(ctr (rspG N C o (base N Q7[i].1 Q7[i].2)).2 (rsp N C o ln lp vl (base N Q7[i].1 Q7[i].2)).2 (rspG N C o (base N Q7[i].1 Q7[i].2)).2.length).map (λj=>((i:Int),true,j))):=(by have e2:tAt Q7 i=Q7[i]:=e;show lgN _ _ i++ent i (rspG N C o (base N (tAt Q7 i).1 (tAt Q7 i).2)) (rsp N C o ln lp vl (base N (tAt Q7 i).1 (tAt Q7 i).2))=_;rw[e2];rfl);unfold M31.s0;simp only[c1,inR_nat hi,A6,AA,e,h16,bindO,AF,dlt hgi,eg,h65];rw[k1 i _ _ _ (by omega) (by omega)];simp only;rw[k2 i _ _ (by simp;omega) (by omega)];simp only[hs,Ad,suc (i:=i) (by omega)]) (by
  have c1:=inlt (a:=(Q7.length:Int)) (b:=(Q7.length:Int)) (by omega);unfold M31.s0;simp only[c1,A7])
 have k0':iter M31.s0 { Qc:=0,QV:=Q7.length,QC:=0,Q8:=0,Q7:=Q7,n:=(Q7.length:Int),i:=0,gs:=gs,Q0:=N,Q1:=A,Q4:=[],Q3:=C,QF:=0,QG:=ln,QP:=lp,value:=vl,other:=0,xs:=[] }=_:=k0;have hLn:=LL Q7.length;unfold M31.m;simp only[k0',bindO,m66 (xs:=lgF N C o Q7 (0,ln,lp,vl,0) Q7.length) (by omega),AF,leB_of (A5 _),AH,A6,AW,Aa]
def m9{o:List Int}(R:Runs N A C o)(hC:C.length<=40){l:List FT}(hl:l.length<=700)(hf:FaL N l){Q7:List (List Int×List Int)}(h20:Q7.length<=20)(hT:PatL N Q7):
  M9.m ⟨N,A,[],C,l,Q7⟩=some (l.map λf=>lgF N C o Q7 f Q7.length,0):=by
 have k0:=iter_count (step:=M9.s0) (λi=>{ l:=l,Q7:=Q7,Qc:=0,QV:=i,ts:=Q7,n:=(Q7.length:Int),i:=(i:Int),Q0:=N,Q1:=A,Q4:=[],Q3:=C,xs:=(Q7.take i).map λt=>rspG N C o (base N t.1 t.2) }) (y:={ l:=l,Q7:=Q7,Qc:=0,QV:=Q7.length,Q0:=N,Q1:=A,Q4:=[],Q3:=C,xs:=Q7.map λt=>rspG N C o (base N t.1 t.2) }) Q7.length (λi hi=>by
  have c1:=ilt (a:=(i:Int)) (b:=(Q7.length:Int)) (by omega);have e:Q7[i]?.getD ([],[])=Q7[i]:=(by rw[A4 hi];rfl);have hti:=hT _ (A9 hi);have hl:((Q7.take i).map λt=>rspG N C o (base N t.1 t.2)).length=i:=(by simp;omega);have hs:(Q7.take (i+1)).map (λt=>rspG N C o (base N t.1 t.2))=(Q7.take i).map (λt=>rspG N C o (base N t.1 t.2))++[rspG N C o (base N Q7[i].1 Q7[i].2)]:=(by rw[take_succ' hi,AS];rfl);unfold M9.s0;simp only[c1,inR_nat hi,A6,AA,e,R.m15 hti,bindO,eqN_of rfl,eqN_of hl,room (n:=i+1) (b:=48) (by omega) (by omega),AH,suc (i:=i) (by omega),hs];rfl) (by
  have c1:=inlt (a:=(Q7.length:Int)) (b:=(Q7.length:Int)) (by omega);unfold M9.s0;simp only[c1,A7,Aa])
 generalize hg:(Q7.map λt=>rspG N C o (base N t.1 t.2))=gs at*
 have hdk:∀i,i<=l.length->((l.take i).map (λf=>lgF N C o Q7 f Q7.length)++List.replicate (l.length - i) []).length=l.length:=λi hi=>by simp;omega
 have k1:=iter_count (step:=M9.s1) (λi=>{ Q7:=Q7,Qc:=0,QV:=Q7.length,QC:=0,Q8:=l.length,Qj:=l.length,l:=l,n:=(l.length:Int),i:=(i:Int),Q0:=N,Q1:=A,Q4:=[],Q3:=C,gs:=gs,xs:=(l.take i).map (λf=>lgF N C o Q7 f Q7.length)++List.replicate (l.length - i) [] }) (y:={ QC:=0,Q8:=l.length,Qj:=l.length,gs:=gs,xs:=l.map λf=>lgF N C o Q7 f Q7.length }) l.length (λi hi=>by
  have c1:=ilt (a:=(i:Int)) (b:=(l.length:Int)) (by omega);have e:l[i]?.getD (0,0,0,0,0)=l[i]:=(by rw[A4 hi];rfl);have hlt:i<((l.take i).map (λf=>lgF N C o Q7 f Q7.length)++List.replicate (l.length - i) []).length:=(by rw[hdk i (by omega)];exact hi);have hs:((l.take i).map (λf=>lgF N C o Q7 f Q7.length)++List.replicate (l.length - i) []).set i (lgF N C o Q7 l[i] Q7.length)=(l.take (i+1)).map (λf=>lgF N C o Q7 f Q7.length)++List.replicate (l.length - (i+1)) []:=(by have h1:((l.take i).map (λf=>lgF N C o Q7 f Q7.length)).length=i:=(by simp;omega);rw[List.set_append_right _ _ (by omega),h1,Nat.sub_self,take_succ' hi,AS,show l.length - i=(l.length - (i+1))+1 by omega,List.replicate_succ,List.set_cons_zero,Ad];rfl);unfold M9.s1;simp only[c1,inR_nat hi,A6,AA,e,m31 R hC (hf _ (A9 hi)) h20 hT hg.symm,bindO,AF,dlt hlt,suc (i:=i) (by omega),hs]) (by
  have c1:=inlt (a:=(l.length:Int)) (b:=(l.length:Int)) (by omega);unfold M9.s1;simp only[c1,A7,Aa,Nat.sub_self,List.replicate_zero,Bn])
 have k0':iter M9.s0 { l:=l,Q7:=Q7,Qc:=0,QV:=0,ts:=Q7,n:=(Q7.length:Int),i:=0,Q0:=N,Q1:=A,Q4:=[],Q3:=C,xs:=[] }=_:=k0;have e0:((l.take 0).map (λf=>lgF N C o Q7 f Q7.length)++List.replicate (l.length - 0) [])=List.replicate l.length []:=by simp
 rw[e0]at k1;have k1':iter M9.s1 { Q7:=Q7,Qc:=0,QV:=Q7.length,QC:=0,Q8:=l.length,Qj:=l.length,l:=l,n:=(l.length:Int),i:=0,Q0:=N,Q1:=A,Q4:=[],Q3:=C,gs:=gs,xs:=List.replicate l.length [] }=_:=k1;have c1:decide (0<=(l.length:Int))=true:=AB (by omega);have c2:decide ((l.length:Int)<=(l.length:Int))=true:=AB (by omega);have c3:decide ((l.length:Int)*24<=281474976710656)=true:=AB (by omega);have c4:decide ((l.length:Int)<=9223372036854775807)=true:=AB (by omega);unfold M9.m;simp only[m30 R.ck R.tp hC hl hf h20 hT,bindO,BE,A7,k0',c1,c2,c3,c4,AH,A6,AA,k1',AF,AE,leB_of (A5 l.length),AW];rw[AN (by simp)]
end
end Co
namespace Co
structure Nn(nd:NodeL)(n i:Nat)(x:Int×List Int×Int×Int):Prop where
 k0:0<=x.1
 k1:x.1<15
 f0:(fan x.1).1<=x.2.1.length
 f1:(x.2.1.length:Int)<=(fan x.1).2
 few:x.2.1.length<=3
 pins:∀a∈x.2.1,In n a
 low:isC x.1=true->∀a∈x.2.1,a<i
 tri:x.1=13->∀a∈x.2.1,kd nd a=12
 mem:x.2.2.1=0
 bit:x.2.2.2=0
structure Bd(nd:NodeL):Prop where
 nn:∀i (hi:i<nd.length),Nn nd nd.length i nd[i]
def kd_app{nd:NodeL}{x:Int×List Int×Int×Int}{a:Int}(h:In nd.length a):kd (nd++[x]) a=kd nd a:=by unfold kd;rw[AL (by obtain⟨q1,q2⟩:=h;omega)]
def Bd.snoc{nd:NodeL}(h:Bd nd){x:Int×List Int×Int×Int}(hx:Nn nd nd.length nd.length x):Bd (nd++[x]) where
 nn:=λi hi=>by
  rw[AG,Bj]at hi⊢;by_cases e:i<nd.length
  ·rw[Bh e];have g:=h.nn i e;exact { g with pins:=λa ha=>by obtain⟨q1,q2⟩:=g.pins a ha;exact⟨q1,by omega⟩,tri:=λhk a ha=>by rw[kd_app (g.pins a ha)];exact g.tri hk a ha }
  ·have e1:i=nd.length:=(by omega);subst e1;rw[Bo (A5 _)];simp only[Nat.sub_self,List.getElem_cons_zero];exact { hx with pins:=λa ha=>by obtain⟨q1,q2⟩:=hx.pins a ha;exact⟨q1,by omega⟩,tri:=λhk a ha=>by rw[kd_app (hx.pins a ha)];exact hx.tri hk a ha }
def nzN{n:Nat}(h:0<n):nz (n:Int)=true:=by simp only[nz,C2,Ag];omega
def u8in{x:Int}(h:0<=x/\x<=255):i64.wrap x=x:=w64 (by omega) (by omega)
def modIn{x:Int}{n:Nat}(h:0<=x/\x<=255)(hn:0<n):In n ((i64.wrap x).tmod (n:Int)):=by rw[u8in h,Bb h.1];exact⟨Int.emod_nonneg _ (by omega),Cr _ (by omega)⟩
def trs(nd:NodeL)(i:Nat):List Int:=(nums i).filter λa=>kd nd a==12
def trs_len{nd:NodeL}{i:Nat}:(trs nd i).length<=i:=by have:=CD (λa=>kd nd a==12) (nums i);rwa [nums_len]at this
def trs_mem{nd:NodeL}{i:Nat}{a:Int}(h:a∈trs nd i):In i a/\kd nd a=12:=by unfold trs at h;rw[CY,nums_mem,BU]at h;exact h
abbrev B8(x:Int):Prop:=0<=x/\x<=255
def m51{xi df d0 d1 w0 w1 w2 w3:Int}{bus mem:Bool}{gs:List (Int×Int×Int×Int)}{xo:List Int}{gk g0 g1 g2:Int}{nd:NodeL}(h0:0<nd.length)(hl:nd.length<=100)(hk:B8 gk)(q0:B8 g0)(q1:B8 g1)(q2:B8 g2):
  ∃k p,M51.m ⟨xi,df,d0,d1,bus,mem,w0,w1,w2,w3,gs,xo,gk,g0,g1,g2,0,nd.length,nd⟩=some (k,p,0,0,nd)/\Nn nd nd.length nd.length (k,p,0,0):=by
 have key:=iter_count (step:=M51.s0) (λi=>⟨0,nd.length,(nd.length:Int),(i64.wrap g0).tmod (nd.length:Int),(i64.wrap g1).tmod (nd.length:Int),(i64.wrap g2).tmod (nd.length:Int),0,(trs nd i).length,(i:Int),nd,xi,df,d0,d1,bus,mem,w0,w1,w2,w3,gs,xo,gk,g0,g1,g2,trs nd i⟩) (y:=⟨(i64.wrap g0).tmod (nd.length:Int),(i64.wrap g1).tmod (nd.length:Int),(i64.wrap g2).tmod (nd.length:Int),trs nd nd.length,nd,xi,df,d0,d1,bus,mem,w0,w1,w2,w3,gs,xo,gk,g0,g1,g2⟩) nd.length (λi hi=>by
  have c1:=ilt (a:=(i:Int)) (b:=(nd.length:Int)) (by omega);have hl:=trs_len (nd:=nd) (i:=i);have hs:trs nd (i+1)=if kd nd (i:Int)==12 then trs nd i++[(i:Int)] else trs nd i:=by
   unfold trs;rw[nums_succ,C8]
   cases e:kd nd (i:Int)==12 with
   |true=>rw[CP (p:=λa=>kd nd a==12) e];rfl
   |false=>rw[CQ (p:=λa=>kd nd a==12) (by show¬(kd nd (i:Int)==12)=true;rw[e];simp)];simp
  have e6:(nd[i]?.getD (0,[],0,0)).1=kd nd (i:Int):=rfl;unfold M51.s0;simp only[c1,inR_nat hi,A6,AF,AA,dlt hi,e6,hs,suc (i:=i) (by omega)]
  cases kd nd (i:Int)==12 with
  |true=>simp only[A6,eqN_of rfl,room (n:=(trs nd i).length+1) (b:=8) (by omega) (by omega),AH,Aq,AG,Bj]
  |false=>simp only[A7];rfl) (by
  have c1:=inlt (a:=(nd.length:Int)) (b:=(nd.length:Int)) (by omega);unfold M51.s0;simp only[c1,A7,AF,leB_of (A5 _),AH,A6,AW,Aa])
 have ha:=modIn (n:=nd.length) q0 h0;have hb:=modIn (n:=nd.length) q1 h0;have hd:=modIn (n:=nd.length) q2 h0;have htm:∀a∈trs nd nd.length,In nd.length a/\kd nd a=12:=λa ha=>trs_mem ha;have htl:=trs_len (nd:=nd) (i:=nd.length);have key':iter M51.s0 { Xj:=0,JI:=nd.length,n:=(nd.length:Int),a:=(i64.wrap g0).tmod (nd.length:Int),bb:=(i64.wrap g1).tmod (nd.length:Int),d:=(i64.wrap g2).tmod (nd.length:Int),K1:=0,Z5:=0,i:=0,nd:=nd,xin:=xi,dffs:=df,d0:=d0,d1:=d1,bus:=bus,mem:=mem,w0:=w0,w1:=w1,w2:=w2,w3:=w3,Ql:=gs,Qn:=xo,gk:=gk,g0:=g0,g1:=g1,g2:=g2,tr:=[] }=_:=key;unfold M51.m;simp only[nzN h0,A6,key',bindO];clear key key';revert ha hb hd htm htl;generalize (i64.wrap g0).tmod (nd.length:Int)=a;generalize (i64.wrap g1).tmod (nd.length:Int)=b;generalize (i64.wrap g2).tmod (nd.length:Int)=d;generalize trs nd nd.length=ts;intro ha hb hd htm htl;have hkk:0<=(bif bus then i64.wrap (gk.tmod 13) else i64.wrap (gk.tmod 9))/\(bif bus then i64.wrap (gk.tmod 13) else i64.wrap (gk.tmod 9))<=12:=by
  have e1:gk.tmod 13=gk%13:=Bb hk.1;have e2:gk.tmod 9=gk%9:=Bb hk.1;rw[e1,e2,w64 (by omega) (by omega),w64 (by omega) (by omega)];cases bus
  ·show 0<=gk%9/\gk%9<=12;omega
  ·show 0<=gk%13/\gk%13<=12;omega
 revert hkk;generalize (bif bus then i64.wrap (gk.tmod 13) else i64.wrap (gk.tmod 9))=kk;intro hkk;have mk:∀(k:Int) (p:List Int),0<=k->k<15->(fan k).1<=p.length->(p.length:Int)<=(fan k).2->p.length<=3->(∀a∈p,In nd.length a)->(k=13->∀a∈p,kd nd a=12)->Nn nd nd.length nd.length (k,p,0,0):=
  λk p h1 h2 h3 h4 h5 h6 h7=>⟨h1,h2,h3,h4,h5,h6,λ_ a ha=>(h6 a ha).2,h7,rfl,rfl⟩
 by_cases c6:kk<6
 ·have e1:IntKind.u8.wrap (5+IntKind.u8.wrap kk)=5+kk:=(by have:IntKind.u8.wrap kk=kk:=w8 (by omega) (by omega);rw[this];exact w8 (by omega) (by omega));have hfan:∀p:List Int,2<=p.length->p.length<=3->(fan (5+kk)).1<=p.length/\(p.length:Int)<=(fan (5+kk)).2:=λp l1 l2=>by
   have e:kk=0\/kk=1\/kk=2\/kk=3\/kk=4\/kk=5:=(by omega);have:fan (5+kk)=(2,16):=by rcases e with rfl|rfl|rfl|rfl|rfl|rfl<;>rfl
   rw[this];exact⟨by show(2:Int)<=p.length;omega,by show(p.length:Int)<=16;omega⟩
  simp only[AB c6,A6,e1]
  cases decide (gk>=128) with
  |true=>have e2:leB 3 ([a,b]++[d]).length=true:=rfl;simp only[A6,e2,AH];refine⟨_,_,rfl,mk _ _ (by omega) (by omega) (hfan [a,b,d] (AO rfl) (AO rfl)).1 (hfan [a,b,d] (AO rfl) (AO rfl)).2 (AO rfl) (λx hx=> ?_) (λh=>by omega)⟩;have hx:x∈[a,b,d]:=hx;simp only[AT,Av,Bu]at hx;rcases hx with rfl|rfl|rfl<;>assumption
  |false=>simp only[A7];refine⟨_,_,rfl,mk _ _ (by omega) (by omega) (hfan [a,b] (AO rfl) (AO rfl)).1 (hfan [a,b] (AO rfl) (AO rfl)).2 (AO rfl) (λx hx=> ?_) (λh=>by omega)⟩;simp only[AT,Av,Bu]at hx;rcases hx with rfl|rfl<;>assumption
 ·simp only[AM c6,A7];by_cases e6:kk=6
  ·have g:(kk==6)=true:=BU.2 e6;simp only[g,A6];exact⟨_,_,rfl,mk 4 [a] (by omega) (by omega) (AO rfl) (AO rfl) (AO rfl) (λx hx=>by rw[Ae.1 hx];exact ha) (λh=>by omega)⟩
  ·have g:(kk==6)=false:=Ag.2 e6;simp only[g,A7];by_cases e7:kk=7
   ·have g:(kk==7)=true:=BU.2 e7;simp only[g,A6];refine⟨_,_,rfl,mk 11 [a,b,d] (by omega) (by omega) (AO rfl) (AO rfl) (AO rfl) (λx hx=> ?_) (λh=>by omega)⟩;simp only[AT,Av,Bu]at hx;rcases hx with rfl|rfl|rfl<;>assumption
   ·have g:(kk==7)=false:=Ag.2 e7;simp only[g,A7]
    cases (bif kk==9 then true else kk==10) with
    |true=>simp only[A6];refine⟨_,_,rfl,mk 12 [a,b] (by omega) (by omega) (AO rfl) (AO rfl) (AO rfl) (λx hx=> ?_) (λh=>by omega)⟩;simp only[AT,Av,Bu]at hx;rcases hx with rfl|rfl<;>assumption
    |false=>
     simp only[A7];have last:∃k p,(bif decide (gk>240) then some (IntKind.u8.wrap (1+g0.tmod 2),([]:List Int),(0:Int),(0:Int),nd) else some (3,[a],0,0,nd))=some (k,p,0,0,nd)/\Nn nd nd.length nd.length (k,p,0,0):=by
      cases decide (gk>240) with
      |true=>
       have e1:g0.tmod 2=g0%2:=Bb q0.1;have e2:IntKind.u8.wrap (1+g0.tmod 2)=1+g0%2:=(by rw[e1];exact w8 (by omega) (by omega));rw[e2];have e3:fan (1+g0%2)=(0,0):=by have:g0%2=0\/g0%2=1:=(by omega);rcases this with e|e<;>(rw[e];rfl)
       exact⟨_,_,rfl,mk (1+g0%2) [] (by omega) (by omega) (by rw[e3];exact AO rfl) (by rw[e3];exact AO rfl) (AO rfl) (λx hx=>by cases hx) (λh=>by omega)⟩
      |false=>exact⟨_,_,rfl,mk 3 [a] (by omega) (by omega) (AO rfl) (AO rfl) (AO rfl) (λx hx=>by rw[Ae.1 hx];exact ha) (λh=>by omega)⟩
     by_cases ct:(bif decide (kk>10) then decide ((ts.length:Int)>0) else false)=true
     ·have hts:0<ts.length:=by
       cases h:decide (kk>10) with
       |true=>rw[h]at ct;have:=AO ct;omega
       |false=>rw[h]at ct;cases ct
      simp only[ct,A6,nzN hts];have hi:=modIn (n:=ts.length) q0 hts;have hat:∀i:Int,In ts.length i->In nd.length (ts[i.toNat]?.getD 0)/\kd nd (ts[i.toNat]?.getD 0)=12:=λi hi=>(by have h1:i.toNat<ts.length:=(by obtain⟨q1,q2⟩:=hi;omega);rw[A4 h1];exact htm _ (A9 h1));simp only[inR_int hi,A6];by_cases ct2:(ts.length:Int)>1
      ·have hj:In ts.length ((i64.wrap ((i64.wrap g0).tmod (ts.length:Int)+1)).tmod (ts.length:Int)):=(by obtain⟨r1,r2⟩:=hi;rw[w64 (by omega) (by omega),Bb (by omega)];exact⟨Int.emod_nonneg _ (by omega),Cr _ (by omega)⟩);have e2:∀u v:Int,leB 2 ([u]++[v]).length=true:=λu v=>rfl;simp only[AB ct2,A6,inR_int hj,e2,AH];refine⟨_,_,rfl,mk 13 [ts[((i64.wrap g0).tmod (ts.length:Int)).toNat]?.getD 0,ts[((i64.wrap ((i64.wrap g0).tmod (ts.length:Int)+1)).tmod (ts.length:Int)).toNat]?.getD 0] (by omega) (by omega) (by show(1:Int)<=2;omega) (by show(2:Int)<=16;omega) (by show 2<=3;omega) (λx hx=> ?_) (λ_ x hx=> ?_)⟩
       ·simp only[AT,Av,Bu]at hx;rcases hx with rfl|rfl
        ·exact(hat _ hi).1
        ·exact(hat _ hj).1
       ·simp only[AT,Av,Bu]at hx;rcases hx with rfl|rfl
        ·exact(hat _ hi).2
        ·exact(hat _ hj).2
      ·simp only[AM ct2,A7];refine⟨_,_,rfl,mk 13 [ts[((i64.wrap g0).tmod (ts.length:Int)).toNat]?.getD 0] (by omega) (by omega) (by show(1:Int)<=1;omega) (by show(1:Int)<=16;omega) (by show 1<=3;omega) (λx hx=> ?_) (λ_ x hx=> ?_)⟩
       ·rw[Ae.1 hx];exact(hat _ hi).1
       ·rw[Ae.1 hx];exact(hat _ hi).2
     ·have ct':(bif decide (kk>10) then decide ((ts.length:Int)>0) else false)=false:=(by simpa using ct);simp only[ct',A7];exact last
end Co
namespace M22
structure gX where(xin dffs d0 d1:Int)(bus mem:Bool)(w0 w1 w2 w3:Int)(Ql:List ((Int)×(Int)×(Int)×Int))(Qn:TI)
def g:Sg gX:=⟨[.agg [iB,iB,iB,iB,.bo,.bo,iB,iB,iB,iB,.arr (.pair lB (.pair lB (.pair lB lB))),aB]],[],λa b=>⟨a.1.1,a.1.2.1,a.1.2.2.1,a.1.2.2.2.1,a.1.2.2.2.2.1,a.1.2.2.2.2.2.1,a.1.2.2.2.2.2.2.1,a.1.2.2.2.2.2.2.2.1,a.1.2.2.2.2.2.2.2.2.1,a.1.2.2.2.2.2.2.2.2.2.1,a.1.2.2.2.2.2.2.2.2.2.2.1,a.1.2.2.2.2.2.2.2.2.2.2.2.1⟩,λx=>((x.xin,(x.dffs,(x.d0,(x.d1,(x.bus,(x.mem,(x.w0,(x.w1,(x.w2,(x.w3,(x.Ql,(x.Qn,())))))))))))),()),λx=>()⟩
abbrev fY:=TN×TS×TM×TI
def f:Ft fY:=⟨none,.agg cir4,[],λa b=>(a.1,a.2.1,a.2.2.1,a.2.2.2.1),λy=>(y.1,(y.2.1,(y.2.2.1,(y.2.2.2,())))),λy=>()⟩
def cl:List (FuncId×Con):=[(51,M51.con),(52,cn M52.known)]
def cl_ok:Yz prog cl:=⟨M51.con_ok,cno M52.known,trivial⟩
structure p5X where(n i xin dffs d0 d1:Int)(bus mem:Bool)(w0 w1 w2 w3:Int)(Ql:List ((Int)×(Int)×(Int)×Int))(Qn:TI)(QN QL:Nat)(nm:TS)(Ym JC:Nat)(nd:TN)(oxs:TI)
def p5:Pt p5X:=⟨[.cell 2 3 (.int .i64)],⟨[(1,cP),(2,.c (.ptr 1 0)),(3,.c (.ptr 2 0)),(9,cI),(12,cI)],[.st [iB,iB,iB,iB,.bo,.bo,iB,iB,iB,iB,.arr (.pair lB (.pair lB (.pair lB lB))),aB] 1 0,.st [jk,jk,jk,jk] 1 0,.st [.sl 3 0 4,aS,.nils,.sl 4 0 1] 1 0,.arr lN 0,oI]⟩,λ((_,_,_,a,b,_),(c,d,e,f,g,h,i,j,k,l,m,n,_),_,((o,p),q,_,(r,s),_),t,u,_)=>⟨a,b,c,d,e,f,g,h,i,j,k,l,m,n,o,p,q,r,s,t,u⟩,λx=>(((),((),((),(x.n,(x.i,()))))),((x.xin,(x.dffs,(x.d0,(x.d1,(x.bus,(x.mem,(x.w0,(x.w1,(x.w2,(x.w3,(x.Ql,(x.Qn,())))))))))))),(((),((),((),((),())))),(((x.QN,x.QL),(x.nm,((),((x.Ym,x.JC),())))),(x.nd,(x.oxs,()))))))⟩
structure q5X where(n:Int)(QN QL:Nat)(nm:TS)(Ym JC:Nat)(nd:TN)(oxs:TI)
def q5:Pt q5X:=⟨[],⟨[(2,.c (.ptr 1 0)),(3,.c (.ptr 2 0)),(9,cI)],[.st [jk,jk,jk,jk,jk,jk,jk,jk,jk,jk,jk,jk] 1 0,.st [jk,jk,jk,jk] 1 0,.st [.sl 3 0 4,aS,.nils,.sl 4 0 1] 1 0,.arr lN 0,oI]⟩,λ((_,_,a,_),_,_,((b,c),d,_,(e,f),_),g,h,_)=>⟨a,b,c,d,e,f,g,h⟩,λx=>(((),((),(x.n,()))),(((),((),((),((),((),((),((),((),((),((),((),((),())))))))))))),(((),((),((),((),())))),(((x.QN,x.QL),(x.nm,((),((x.Ym,x.JC),())))),(x.nd,(x.oxs,()))))))⟩
def s5(x:p5X):Option (p5X⊕q5X):=bif bif decide (x.i<(x.Qn.length:Int)) then decide (x.i<3) else false then bif inR x.i x.Qn.length then bif nz x.n then bif eqN x.Ym 0&&eqN x.oxs.length x.JC&&J1 (x.JC+1) 8 then some (inl ⟨x.n,i64.wrap (x.i+1),x.xin,x.dffs,x.d0,x.d1,x.bus,x.mem,x.w0,x.w1,x.w2,x.w3,x.Ql,x.Qn,x.QN,x.QL,x.nm,0,x.JC+1,x.nd,x.oxs++[(i64.wrap (x.Qn[x.i.toNat]?.getD 0)).tmod x.n]⟩) else none else none else none else some (inr ⟨x.n,x.QN,x.QL,x.nm,x.Ym,x.JC,x.nd,x.oxs⟩)
def l5:QT:=Qa 0 p5 (.exit 10) q5 s5
def l5_ok  :QO prog 178 none 0 (C22.QR 5) l5:=lk cl_ok 6 (λ_=>none) QX.nil
structure p4X where(n i xin dffs d0 d1:Int)(bus mem:Bool)(w0 w1 w2 w3:Int)(Ql:List ((Int)×(Int)×(Int)×Int))(Qn:TI)(QN QL nm_lo U9:Nat)(nd:TN)(nms:TS)
def p4:Pt p4X:=⟨[.cell 2 1 .str],⟨[(1,cP),(2,.c (.ptr 1 0)),(3,.c (.ptr 2 0)),(9,cI),(11,cI)],[.st [iB,iB,iB,iB,.bo,.bo,iB,iB,iB,iB,.arr (.pair lB (.pair lB (.pair lB lB))),aB] 1 0,.st [jk,jk,jk,jk] 1 0,.st [.sl 3 0 4,.sl 4 0 1,.nils,.nils] 1 0,.arr lN 0,.arr .str 0]⟩,λ((_,_,_,a,b,_),(c,d,e,f,g,h,i,j,k,l,m,n,_),_,((o,p),(q,r),_),s,t,_)=>⟨a,b,c,d,e,f,g,h,i,j,k,l,m,n,o,p,q,r,s,t⟩,λx=>(((),((),((),(x.n,(x.i,()))))),((x.xin,(x.dffs,(x.d0,(x.d1,(x.bus,(x.mem,(x.w0,(x.w1,(x.w2,(x.w3,(x.Ql,(x.Qn,())))))))))))),(((),((),((),((),())))),(((x.QN,x.QL),((x.nm_lo,x.U9),((),((),())))),(x.nd,(x.nms,()))))))⟩
structure q4X where(n xin dffs d0 d1:Int)(bus mem:Bool)(w0 w1 w2 w3:Int)(Ql:List ((Int)×(Int)×(Int)×Int))(Qn:TI)(QN QL:Nat)(nm:TS)(nd:TN)
def q4:Pt q4X:=⟨[],⟨[(1,cP),(2,.c (.ptr 1 0)),(3,.c (.ptr 2 0)),(9,cI)],[.st [iB,iB,iB,iB,.bo,.bo,iB,iB,iB,iB,.arr (.pair lB (.pair lB (.pair lB lB))),aB] 1 0,.st [jk,jk,jk,jk] 1 0,.st [.sl 3 0 4,aS,.nils,.nils] 1 0,.arr lN 0]⟩,λ((_,_,_,a,_),(b,c,d,e,f,g,h,i,j,k,l,m,_),_,((n,o),p,_),q,_)=>⟨a,b,c,d,e,f,g,h,i,j,k,l,m,n,o,p,q⟩,λx=>(((),((),((),(x.n,())))),((x.xin,(x.dffs,(x.d0,(x.d1,(x.bus,(x.mem,(x.w0,(x.w1,(x.w2,(x.w3,(x.Ql,(x.Qn,())))))))))))),(((),((),((),((),())))),(((x.QN,x.QL),(x.nm,((),((),())))),(x.nd,())))))⟩
def s4(x:p4X):Option (p4X⊕q4X):=bif decide (x.i<x.n) then bindO (M52.m ⟨x.i⟩) λy=>bif eqN x.nm_lo 0&&eqN x.nms.length x.U9&&J1 (x.U9+1) 16 then some (inl ⟨x.n,i64.wrap (x.i+1),x.xin,x.dffs,x.d0,x.d1,x.bus,x.mem,x.w0,x.w1,x.w2,x.w3,x.Ql,x.Qn,x.QN,x.QL,0,x.U9+1,x.nd,x.nms++[y]⟩) else none else bif leB (x.nm_lo+x.U9) x.nms.length&&true&&true then some (inr ⟨x.n,x.xin,x.dffs,x.d0,x.d1,x.bus,x.mem,x.w0,x.w1,x.w2,x.w3,x.Ql,x.Qn,x.QN,x.QL,List.take x.U9 (List.drop x.nm_lo x.nms),x.nd⟩) else none
def l4:QT:=Qa 0 p4 (.exit 8) q4 s4
def l4_ok  :QO prog 178 none 0 (C22.QR 4) l4:=lk cl_ok 5 (J2 [(5,l5)]) QX.nil
structure p2X where(first df i xin dffs d0 d1:Int)(bus mem:Bool)(w0 w1 w2 w3:Int)(Ql:List ((Int)×(Int)×(Int)×Int))(Qn:TI)(QN QL:Nat)(nd:TN)
def p2:Pt p2X:=⟨[],⟨[(1,cP),(2,.c (.ptr 1 0)),(3,.c (.ptr 2 0)),(5,cI),(6,cI),(8,cI)],[.st [iB,iB,iB,iB,.bo,.bo,iB,iB,iB,iB,.arr (.pair lB (.pair lB (.pair lB lB))),aB] 1 0,.st [jk,jk,jk,jk] 1 0,.st [.sl 3 0 4,.nils,.nils,.nils] 1 0,.arr lN 0]⟩,λ((_,_,_,a,b,c,_),(d,e,f,g,h,i,j,k,l,m,n,o,_),_,((p,q),_),r,_)=>⟨a,b,c,d,e,f,g,h,i,j,k,l,m,n,o,p,q,r⟩,λx=>(((),((),((),(x.first,(x.df,(x.i,())))))),((x.xin,(x.dffs,(x.d0,(x.d1,(x.bus,(x.mem,(x.w0,(x.w1,(x.w2,(x.w3,(x.Ql,(x.Qn,())))))))))))),(((),((),((),((),())))),(((x.QN,x.QL),((),((),((),())))),(x.nd,())))))⟩
structure q2X where(first df xin dffs d0 d1:Int)(bus mem:Bool)(w0 w1 w2 w3:Int)(Ql:List ((Int)×(Int)×(Int)×Int))(Qn:TI)(QN QL:Nat)(nd:TN)
def q2:Pt q2X:=⟨[],⟨[(1,cP),(2,.c (.ptr 1 0)),(3,.c (.ptr 2 0)),(5,cI),(6,cI)],[.st [iB,iB,iB,iB,.bo,.bo,iB,iB,iB,iB,.arr (.pair lB (.pair lB (.pair lB lB))),aB] 1 0,.st [jk,jk,jk,jk] 1 0,.st [.sl 3 0 4,.nils,.nils,.nils] 1 0,.arr lN 0]⟩,λ((_,_,_,a,b,_),(c,d,e,f,g,h,i,j,k,l,m,n,_),_,((o,p),_),q,_)=>⟨a,b,c,d,e,f,g,h,i,j,k,l,m,n,o,p,q⟩,λx=>(((),((),((),(x.first,(x.df,()))))),((x.xin,(x.dffs,(x.d0,(x.d1,(x.bus,(x.mem,(x.w0,(x.w1,(x.w2,(x.w3,(x.Ql,(x.Qn,())))))))))))),(((),((),((),((),())))),(((x.QN,x.QL),((),((),((),())))),(x.nd,())))))⟩
def s2(x:p2X):Option (p2X⊕q2X):=bif bif decide (x.i<(x.Ql.length:Int)) then decide (x.i<8) else false then bif inR x.i x.Ql.length then bindO (M51.m ⟨x.xin,x.dffs,x.d0,x.d1,x.bus,x.mem,x.w0,x.w1,x.w2,x.w3,x.Ql,x.Qn,(x.Ql[x.i.toNat]?.getD (0,0,0,0)).1,(x.Ql[x.i.toNat]?.getD (0,0,0,0)).2.1,(x.Ql[x.i.toNat]?.getD (0,0,0,0)).2.2.1,(x.Ql[x.i.toNat]?.getD (0,0,0,0)).2.2.2,x.QN,x.QL,x.nd⟩) λy=>bif eqN x.QN 0&&eqN x.nd.length x.QL&&J1 (x.QL+1) 48 then some (inl ⟨x.first,x.df,i64.wrap (x.i+1),x.xin,x.dffs,x.d0,x.d1,x.bus,x.mem,x.w0,x.w1,x.w2,x.w3,x.Ql,x.Qn,0,x.QL+1,x.nd++[(y.1,y.2.1,y.2.2.1,y.2.2.2.1)]⟩) else none else none else some (inr ⟨x.first,x.df,x.xin,x.dffs,x.d0,x.d1,x.bus,x.mem,x.w0,x.w1,x.w2,x.w3,x.Ql,x.Qn,x.QN,x.QL,x.nd⟩)
def l2:QT:=Qa 0 p2 (.exit 4) q2 s2
def l2_ok  :QO prog 178 none 0 (C22.QR 2) l2:=lk cl_ok 3 (J2 [(4,l4),(5,l5)]) QX.nil
structure p1X where(first df i xin dffs d0 d1:Int)(bus mem:Bool)(w0 w1 w2 w3:Int)(Ql:List ((Int)×(Int)×(Int)×Int))(Qn:TI)(QN QL:Nat)(nd:TN)
def p1:Pt p1X:=⟨[],⟨[(1,cP),(2,.c (.ptr 1 0)),(3,.c (.ptr 2 0)),(5,cI),(6,cI),(7,cI)],[.st [iB,iB,iB,iB,.bo,.bo,iB,iB,iB,iB,.arr (.pair lB (.pair lB (.pair lB lB))),aB] 1 0,.st [jk,jk,jk,jk] 1 0,.st [.sl 3 0 4,.nils,.nils,.nils] 1 0,.arr lN 0]⟩,λ((_,_,_,a,b,c,_),(d,e,f,g,h,i,j,k,l,m,n,o,_),_,((p,q),_),r,_)=>⟨a,b,c,d,e,f,g,h,i,j,k,l,m,n,o,p,q,r⟩,λx=>(((),((),((),(x.first,(x.df,(x.i,())))))),((x.xin,(x.dffs,(x.d0,(x.d1,(x.bus,(x.mem,(x.w0,(x.w1,(x.w2,(x.w3,(x.Ql,(x.Qn,())))))))))))),(((),((),((),((),())))),(((x.QN,x.QL),((),((),((),())))),(x.nd,())))))⟩
structure q1X where(first df xin dffs d0 d1:Int)(bus mem:Bool)(w0 w1 w2 w3:Int)(Ql:List ((Int)×(Int)×(Int)×Int))(Qn:TI)(QN QL:Nat)(nd:TN)
def q1:Pt q1X:=⟨[],⟨[(1,cP),(2,.c (.ptr 1 0)),(3,.c (.ptr 2 0)),(5,cI),(6,cI)],[.st [iB,iB,iB,iB,.bo,.bo,iB,iB,iB,iB,.arr (.pair lB (.pair lB (.pair lB lB))),aB] 1 0,.st [jk,jk,jk,jk] 1 0,.st [.sl 3 0 4,.nils,.nils,.nils] 1 0,.arr lN 0]⟩,λ((_,_,_,a,b,_),(c,d,e,f,g,h,i,j,k,l,m,n,_),_,((o,p),_),q,_)=>⟨a,b,c,d,e,f,g,h,i,j,k,l,m,n,o,p,q⟩,λx=>(((),((),((),(x.first,(x.df,()))))),((x.xin,(x.dffs,(x.d0,(x.d1,(x.bus,(x.mem,(x.w0,(x.w1,(x.w2,(x.w3,(x.Ql,(x.Qn,())))))))))))),(((),((),((),((),())))),(((x.QN,x.QL),((),((),((),())))),(x.nd,())))))⟩
def s1(x:p1X):Option (p1X⊕q1X):=bif decide (x.i<x.df) then bif eqN x.QN 0&&eqN x.nd.length x.QL&&J1 (x.QL+1) 48 then some (inl ⟨x.first,x.df,i64.wrap (x.i+1),x.xin,x.dffs,x.d0,x.d1,x.bus,x.mem,x.w0,x.w1,x.w2,x.w3,x.Ql,x.Qn,0,x.QL+1,x.nd++[(14,[0],0,0)]⟩) else none else some (inr ⟨x.first,x.df,x.xin,x.dffs,x.d0,x.d1,x.bus,x.mem,x.w0,x.w1,x.w2,x.w3,x.Ql,x.Qn,x.QN,x.QL,x.nd⟩)
def l1:QT:=Qa 0 p1 (.exit 2) q1 s1
def l1_ok  :QO prog 178 none 0 (C22.QR 1) l1:=lk cl_ok 2 (J2 [(2,l2),(4,l4),(5,l5)]) QX.nil
structure p0X where(i xin dffs d0 d1:Int)(bus mem:Bool)(w0 w1 w2 w3:Int)(Ql:List ((Int)×(Int)×(Int)×Int))(Qn:TI)(QN QL:Nat)(nd:TN)
def p0:Pt p0X:=⟨[.cell 2 0 lN],⟨[(1,cP),(2,.c (.ptr 1 0)),(3,.c (.ptr 2 0)),(4,cI)],[.st [iB,iB,iB,iB,.bo,.bo,iB,iB,iB,iB,.arr (.pair lB (.pair lB (.pair lB lB))),aB] 1 0,.st [jk,jk,jk,jk] 1 0,.st [.sl 3 0 4,.nils,.nils,.nils] 1 0,.arr lN 0]⟩,λ((_,_,_,a,_),(b,c,d,e,f,g,h,i,j,k,l,m,_),_,((n,o),_),p,_)=>⟨a,b,c,d,e,f,g,h,i,j,k,l,m,n,o,p⟩,λx=>(((),((),((),(x.i,())))),((x.xin,(x.dffs,(x.d0,(x.d1,(x.bus,(x.mem,(x.w0,(x.w1,(x.w2,(x.w3,(x.Ql,(x.Qn,())))))))))))),(((),((),((),((),())))),(((x.QN,x.QL),((),((),((),())))),(x.nd,())))))⟩
structure q0X where(xin dffs d0 d1:Int)(bus mem:Bool)(w0 w1 w2 w3:Int)(Ql:List ((Int)×(Int)×(Int)×Int))(Qn:TI)(QN QL:Nat)(nd:TN)
def q0:Pt q0X:=⟨[],⟨[(1,cP),(2,.c (.ptr 1 0)),(3,.c (.ptr 2 0))],[.st [iB,iB,iB,iB,.bo,.bo,iB,iB,iB,iB,.arr (.pair lB (.pair lB (.pair lB lB))),aB] 1 0,.st [jk,jk,jk,jk] 1 0,.st [.sl 3 0 4,.nils,.nils,.nils] 1 0,.arr lN 0]⟩,λ(_,(a,b,c,d,e,f,g,h,i,j,k,l,_),_,((m,n),_),o,_)=>⟨a,b,c,d,e,f,g,h,i,j,k,l,m,n,o⟩,λx=>(((),((),((),()))),((x.xin,(x.dffs,(x.d0,(x.d1,(x.bus,(x.mem,(x.w0,(x.w1,(x.w2,(x.w3,(x.Ql,(x.Qn,())))))))))))),(((),((),((),((),())))),(((x.QN,x.QL),((),((),((),())))),(x.nd,())))))⟩
def s0(x:p0X):Option (p0X⊕q0X):=bif decide (x.i<=i64.wrap (x.xin.tmod 4)) then bif eqN x.QN 0&&eqN x.nd.length x.QL&&J1 (x.QL+1) 48 then some (inl ⟨i64.wrap (x.i+1),x.xin,x.dffs,x.d0,x.d1,x.bus,x.mem,x.w0,x.w1,x.w2,x.w3,x.Ql,x.Qn,0,x.QL+1,x.nd++[(0,[],0,0)]⟩) else none else some (inr ⟨x.xin,x.dffs,x.d0,x.d1,x.bus,x.mem,x.w0,x.w1,x.w2,x.w3,x.Ql,x.Qn,x.QN,x.QL,x.nd⟩)
def l0:QT:=Qa 0 p0 (.exit 0) q0 s0
def l0_ok  :QO prog 178 none 0 (C22.QR 0) l0:=lk cl_ok 1 (J2 [(1,l1),(2,l2),(4,l4),(5,l5)]) QX.nil
def E0:Env:=⟨ty,Xy cl,J2 [(0,l0),(1,l1),(2,l2),(4,l4),(5,l5)],none⟩
def m(x:gX):Option fY:=bindO (iter s0 ⟨0,x.xin,x.dffs,x.d0,x.d1,x.bus,x.mem,x.w0,x.w1,x.w2,x.w3,x.Ql,x.Qn,0,0,[]⟩) λy=>bindO (iter s1 ⟨(y.QL:Int),i64.wrap (y.dffs.tmod 3),0,y.xin,y.dffs,y.d0,y.d1,y.bus,y.mem,y.w0,y.w1,y.w2,y.w3,y.Ql,y.Qn,y.QN,y.QL,y.nd⟩) λy=>bif y.mem then bif eqN y.QN 0&&eqN y.nd.length y.QL&&J1 (y.QL+2) 48 then bindO (iter s2 ⟨y.first,y.df,0,y.xin,y.dffs,y.d0,y.d1,y.bus,y.mem,y.w0,y.w1,y.w2,y.w3,y.Ql,y.Qn,0,y.QL+2,y.nd++[(15,[],0,0),(15,[],0,1)]⟩) λy=>bif decide (0<y.df) then bif nz (y.QL:Int) then bif inR (i64.wrap (y.first+0)) y.QL then bif decide (y.QN+(i64.wrap (y.first+0)).toNat<y.nd.length) then bif decide (i64.wrap (0+1)<y.df) then bif nz (y.QL:Int) then bif inR (i64.wrap (y.first+i64.wrap (0+1))) y.QL then bif decide (y.QN+(i64.wrap (y.first+i64.wrap (0+1))).toNat<(List.take (y.QN+(i64.wrap (y.first+0)).toNat) y.nd++((y.nd[y.QN+(i64.wrap (y.first+0)).toNat]?.getD (0,[],0,0)).1,[(i64.wrap y.d0).tmod (y.QL:Int)],(y.nd[y.QN+(i64.wrap (y.first+0)).toNat]?.getD (0,[],0,0)).2.2.1,(y.nd[y.QN+(i64.wrap (y.first+0)).toNat]?.getD (0,[],0,0)).2.2.2)::List.drop (y.QN+(i64.wrap (y.first+0)).toNat+1) y.nd).length) then bif decide (i64.wrap (i64.wrap (0+1)+1)<y.df) then none else bif y.mem then bif nz (y.QL:Int) then bif nz (y.QL:Int) then bif nz (y.QL:Int) then bif nz (y.QL:Int) then none else none else none else none else none else bindO (iter s4 ⟨(y.QL:Int),0,y.xin,y.dffs,y.d0,y.d1,y.bus,y.mem,y.w0,y.w1,y.w2,y.w3,y.Ql,y.Qn,y.QN,y.QL,0,0,List.take (y.QN+(i64.wrap (y.first+i64.wrap (0+1))).toNat) (List.take (y.QN+(i64.wrap (y.first+0)).toNat) y.nd++((y.nd[y.QN+(i64.wrap (y.first+0)).toNat]?.getD (0,[],0,0)).1,[(i64.wrap y.d0).tmod (y.QL:Int)],(y.nd[y.QN+(i64.wrap (y.first+0)).toNat]?.getD (0,[],0,0)).2.2.1,(y.nd[y.QN+(i64.wrap (y.first+0)).toNat]?.getD (0,[],0,0)).2.2.2)::List.drop (y.QN+(i64.wrap (y.first+0)).toNat+1) y.nd)++(((List.take (y.QN+(i64.wrap (y.first+0)).toNat) y.nd++((y.nd[y.QN+(i64.wrap (y.first+0)).toNat]?.getD (0,[],0,0)).1,[(i64.wrap y.d0).tmod (y.QL:Int)],(y.nd[y.QN+(i64.wrap (y.first+0)).toNat]?.getD (0,[],0,0)).2.2.1,(y.nd[y.QN+(i64.wrap (y.first+0)).toNat]?.getD (0,[],0,0)).2.2.2)::List.drop (y.QN+(i64.wrap (y.first+0)).toNat+1) y.nd)[y.QN+(i64.wrap (y.first+i64.wrap (0+1))).toNat]?.getD (0,[],0,0)).1,[(i64.wrap y.d1).tmod (y.QL:Int)],((List.take (y.QN+(i64.wrap (y.first+0)).toNat) y.nd++((y.nd[y.QN+(i64.wrap (y.first+0)).toNat]?.getD (0,[],0,0)).1,[(i64.wrap y.d0).tmod (y.QL:Int)],(y.nd[y.QN+(i64.wrap (y.first+0)).toNat]?.getD (0,[],0,0)).2.2.1,(y.nd[y.QN+(i64.wrap (y.first+0)).toNat]?.getD (0,[],0,0)).2.2.2)::List.drop (y.QN+(i64.wrap (y.first+0)).toNat+1) y.nd)[y.QN+(i64.wrap (y.first+i64.wrap (0+1))).toNat]?.getD (0,[],0,0)).2.2.1,((List.take (y.QN+(i64.wrap (y.first+0)).toNat) y.nd++((y.nd[y.QN+(i64.wrap (y.first+0)).toNat]?.getD (0,[],0,0)).1,[(i64.wrap y.d0).tmod (y.QL:Int)],(y.nd[y.QN+(i64.wrap (y.first+0)).toNat]?.getD (0,[],0,0)).2.2.1,(y.nd[y.QN+(i64.wrap (y.first+0)).toNat]?.getD (0,[],0,0)).2.2.2)::List.drop (y.QN+(i64.wrap (y.first+0)).toNat+1) y.nd)[y.QN+(i64.wrap (y.first+i64.wrap (0+1))).toNat]?.getD (0,[],0,0)).2.2.2)::List.drop (y.QN+(i64.wrap (y.first+i64.wrap (0+1))).toNat+1) (List.take (y.QN+(i64.wrap (y.first+0)).toNat) y.nd++((y.nd[y.QN+(i64.wrap (y.first+0)).toNat]?.getD (0,[],0,0)).1,[(i64.wrap y.d0).tmod (y.QL:Int)],(y.nd[y.QN+(i64.wrap (y.first+0)).toNat]?.getD (0,[],0,0)).2.2.1,(y.nd[y.QN+(i64.wrap (y.first+0)).toNat]?.getD (0,[],0,0)).2.2.2)::List.drop (y.QN+(i64.wrap (y.first+0)).toNat+1) y.nd),[]⟩) λy=>bindO (iter s5 ⟨y.n,0,y.xin,y.dffs,y.d0,y.d1,y.bus,y.mem,y.w0,y.w1,y.w2,y.w3,y.Ql,y.Qn,y.QN,y.QL,y.nm,0,0,y.nd,[]⟩) λy=>bif eqN y.Ym 0&&eqN y.oxs.length y.JC&&J1 (y.JC+1) 8 then bif leB (y.QN+y.QL) y.nd.length&&(leB (0+(y.JC+1)) (y.oxs++[i64.wrap (y.n - 1)]).length&&true)&&true&&true then some (List.take y.QL (List.drop y.QN y.nd),y.nm,[],List.take (y.JC+1) (List.drop 0 (y.oxs++[i64.wrap (y.n - 1)]))) else none else none else none else none else none else bif y.mem then bif nz (y.QL:Int) then bif nz (y.QL:Int) then bif nz (y.QL:Int) then bif nz (y.QL:Int) then none else none else none else none else none else bindO (iter s4 ⟨(y.QL:Int),0,y.xin,y.dffs,y.d0,y.d1,y.bus,y.mem,y.w0,y.w1,y.w2,y.w3,y.Ql,y.Qn,y.QN,y.QL,0,0,List.take (y.QN+(i64.wrap (y.first+0)).toNat) y.nd++((y.nd[y.QN+(i64.wrap (y.first+0)).toNat]?.getD (0,[],0,0)).1,[(i64.wrap y.d0).tmod (y.QL:Int)],(y.nd[y.QN+(i64.wrap (y.first+0)).toNat]?.getD (0,[],0,0)).2.2.1,(y.nd[y.QN+(i64.wrap (y.first+0)).toNat]?.getD (0,[],0,0)).2.2.2)::List.drop (y.QN+(i64.wrap (y.first+0)).toNat+1) y.nd,[]⟩) λy=>bindO (iter s5 ⟨y.n,0,y.xin,y.dffs,y.d0,y.d1,y.bus,y.mem,y.w0,y.w1,y.w2,y.w3,y.Ql,y.Qn,y.QN,y.QL,y.nm,0,0,y.nd,[]⟩) λy=>bif eqN y.Ym 0&&eqN y.oxs.length y.JC&&J1 (y.JC+1) 8 then bif leB (y.QN+y.QL) y.nd.length&&(leB (0+(y.JC+1)) (y.oxs++[i64.wrap (y.n - 1)]).length&&true)&&true&&true then some (List.take y.QL (List.drop y.QN y.nd),y.nm,[],List.take (y.JC+1) (List.drop 0 (y.oxs++[i64.wrap (y.n - 1)]))) else none else none else none else none else none else bif y.mem then bif nz (y.QL:Int) then bif nz (y.QL:Int) then bif nz (y.QL:Int) then bif nz (y.QL:Int) then none else none else none else none else none else bindO (iter s4 ⟨(y.QL:Int),0,y.xin,y.dffs,y.d0,y.d1,y.bus,y.mem,y.w0,y.w1,y.w2,y.w3,y.Ql,y.Qn,y.QN,y.QL,0,0,y.nd,[]⟩) λy=>bindO (iter s5 ⟨y.n,0,y.xin,y.dffs,y.d0,y.d1,y.bus,y.mem,y.w0,y.w1,y.w2,y.w3,y.Ql,y.Qn,y.QN,y.QL,y.nm,0,0,y.nd,[]⟩) λy=>bif eqN y.Ym 0&&eqN y.oxs.length y.JC&&J1 (y.JC+1) 8 then bif leB (y.QN+y.QL) y.nd.length&&(leB (0+(y.JC+1)) (y.oxs++[i64.wrap (y.n - 1)]).length&&true)&&true&&true then some (List.take y.QL (List.drop y.QN y.nd),y.nm,[],List.take (y.JC+1) (List.drop 0 (y.oxs++[i64.wrap (y.n - 1)]))) else none else none else none else bindO (iter s2 ⟨y.first,y.df,0,y.xin,y.dffs,y.d0,y.d1,y.bus,y.mem,y.w0,y.w1,y.w2,y.w3,y.Ql,y.Qn,y.QN,y.QL,y.nd⟩) λy=>bif decide (0<y.df) then bif nz (y.QL:Int) then bif inR (i64.wrap (y.first+0)) y.QL then bif decide (y.QN+(i64.wrap (y.first+0)).toNat<y.nd.length) then bif decide (i64.wrap (0+1)<y.df) then bif nz (y.QL:Int) then bif inR (i64.wrap (y.first+i64.wrap (0+1))) y.QL then bif decide (y.QN+(i64.wrap (y.first+i64.wrap (0+1))).toNat<(List.take (y.QN+(i64.wrap (y.first+0)).toNat) y.nd++((y.nd[y.QN+(i64.wrap (y.first+0)).toNat]?.getD (0,[],0,0)).1,[(i64.wrap y.d0).tmod (y.QL:Int)],(y.nd[y.QN+(i64.wrap (y.first+0)).toNat]?.getD (0,[],0,0)).2.2.1,(y.nd[y.QN+(i64.wrap (y.first+0)).toNat]?.getD (0,[],0,0)).2.2.2)::List.drop (y.QN+(i64.wrap (y.first+0)).toNat+1) y.nd).length) then bif decide (i64.wrap (i64.wrap (0+1)+1)<y.df) then none else bif y.mem then bif nz (y.QL:Int) then bif nz (y.QL:Int) then bif nz (y.QL:Int) then bif nz (y.QL:Int) then none else none else none else none else none else bindO (iter s4 ⟨(y.QL:Int),0,y.xin,y.dffs,y.d0,y.d1,y.bus,y.mem,y.w0,y.w1,y.w2,y.w3,y.Ql,y.Qn,y.QN,y.QL,0,0,List.take (y.QN+(i64.wrap (y.first+i64.wrap (0+1))).toNat) (List.take (y.QN+(i64.wrap (y.first+0)).toNat) y.nd++((y.nd[y.QN+(i64.wrap (y.first+0)).toNat]?.getD (0,[],0,0)).1,[(i64.wrap y.d0).tmod (y.QL:Int)],(y.nd[y.QN+(i64.wrap (y.first+0)).toNat]?.getD (0,[],0,0)).2.2.1,(y.nd[y.QN+(i64.wrap (y.first+0)).toNat]?.getD (0,[],0,0)).2.2.2)::List.drop (y.QN+(i64.wrap (y.first+0)).toNat+1) y.nd)++(((List.take (y.QN+(i64.wrap (y.first+0)).toNat) y.nd++((y.nd[y.QN+(i64.wrap (y.first+0)).toNat]?.getD (0,[],0,0)).1,[(i64.wrap y.d0).tmod (y.QL:Int)],(y.nd[y.QN+(i64.wrap (y.first+0)).toNat]?.getD (0,[],0,0)).2.2.1,(y.nd[y.QN+(i64.wrap (y.first+0)).toNat]?.getD (0,[],0,0)).2.2.2)::List.drop (y.QN+(i64.wrap (y.first+0)).toNat+1) y.nd)[y.QN+(i64.wrap (y.first+i64.wrap (0+1))).toNat]?.getD (0,[],0,0)).1,[(i64.wrap y.d1).tmod (y.QL:Int)],((List.take (y.QN+(i64.wrap (y.first+0)).toNat) y.nd++((y.nd[y.QN+(i64.wrap (y.first+0)).toNat]?.getD (0,[],0,0)).1,[(i64.wrap y.d0).tmod (y.QL:Int)],(y.nd[y.QN+(i64.wrap (y.first+0)).toNat]?.getD (0,[],0,0)).2.2.1,(y.nd[y.QN+(i64.wrap (y.first+0)).toNat]?.getD (0,[],0,0)).2.2.2)::List.drop (y.QN+(i64.wrap (y.first+0)).toNat+1) y.nd)[y.QN+(i64.wrap (y.first+i64.wrap (0+1))).toNat]?.getD (0,[],0,0)).2.2.1,((List.take (y.QN+(i64.wrap (y.first+0)).toNat) y.nd++((y.nd[y.QN+(i64.wrap (y.first+0)).toNat]?.getD (0,[],0,0)).1,[(i64.wrap y.d0).tmod (y.QL:Int)],(y.nd[y.QN+(i64.wrap (y.first+0)).toNat]?.getD (0,[],0,0)).2.2.1,(y.nd[y.QN+(i64.wrap (y.first+0)).toNat]?.getD (0,[],0,0)).2.2.2)::List.drop (y.QN+(i64.wrap (y.first+0)).toNat+1) y.nd)[y.QN+(i64.wrap (y.first+i64.wrap (0+1))).toNat]?.getD (0,[],0,0)).2.2.2)::List.drop (y.QN+(i64.wrap (y.first+i64.wrap (0+1))).toNat+1) (List.take (y.QN+(i64.wrap (y.first+0)).toNat) y.nd++((y.nd[y.QN+(i64.wrap (y.first+0)).toNat]?.getD (0,[],0,0)).1,[(i64.wrap y.d0).tmod (y.QL:Int)],(y.nd[y.QN+(i64.wrap (y.first+0)).toNat]?.getD (0,[],0,0)).2.2.1,(y.nd[y.QN+(i64.wrap (y.first+0)).toNat]?.getD (0,[],0,0)).2.2.2)::List.drop (y.QN+(i64.wrap (y.first+0)).toNat+1) y.nd),[]⟩) λy=>bindO (iter s5 ⟨y.n,0,y.xin,y.dffs,y.d0,y.d1,y.bus,y.mem,y.w0,y.w1,y.w2,y.w3,y.Ql,y.Qn,y.QN,y.QL,y.nm,0,0,y.nd,[]⟩) λy=>bif eqN y.Ym 0&&eqN y.oxs.length y.JC&&J1 (y.JC+1) 8 then bif leB (y.QN+y.QL) y.nd.length&&(leB (0+(y.JC+1)) (y.oxs++[i64.wrap (y.n - 1)]).length&&true)&&true&&true then some (List.take y.QL (List.drop y.QN y.nd),y.nm,[],List.take (y.JC+1) (List.drop 0 (y.oxs++[i64.wrap (y.n - 1)]))) else none else none else none else none else none else bif y.mem then bif nz (y.QL:Int) then bif nz (y.QL:Int) then bif nz (y.QL:Int) then bif nz (y.QL:Int) then none else none else none else none else none else bindO (iter s4 ⟨(y.QL:Int),0,y.xin,y.dffs,y.d0,y.d1,y.bus,y.mem,y.w0,y.w1,y.w2,y.w3,y.Ql,y.Qn,y.QN,y.QL,0,0,List.take (y.QN+(i64.wrap (y.first+0)).toNat) y.nd++((y.nd[y.QN+(i64.wrap (y.first+0)).toNat]?.getD (0,[],0,0)).1,[(i64.wrap y.d0).tmod (y.QL:Int)],(y.nd[y.QN+(i64.wrap (y.first+0)).toNat]?.getD (0,[],0,0)).2.2.1,(y.nd[y.QN+(i64.wrap (y.first+0)).toNat]?.getD (0,[],0,0)).2.2.2)::List.drop (y.QN+(i64.wrap (y.first+0)).toNat+1) y.nd,[]⟩) λy=>bindO (iter s5 ⟨y.n,0,y.xin,y.dffs,y.d0,y.d1,y.bus,y.mem,y.w0,y.w1,y.w2,y.w3,y.Ql,y.Qn,y.QN,y.QL,y.nm,0,0,y.nd,[]⟩) λy=>bif eqN y.Ym 0&&eqN y.oxs.length y.JC&&J1 (y.JC+1) 8 then bif leB (y.QN+y.QL) y.nd.length&&(leB (0+(y.JC+1)) (y.oxs++[i64.wrap (y.n - 1)]).length&&true)&&true&&true then some (List.take y.QL (List.drop y.QN y.nd),y.nm,[],List.take (y.JC+1) (List.drop 0 (y.oxs++[i64.wrap (y.n - 1)]))) else none else none else none else none else none else bif y.mem then bif nz (y.QL:Int) then bif nz (y.QL:Int) then bif nz (y.QL:Int) then bif nz (y.QL:Int) then none else none else none else none else none else bindO (iter s4 ⟨(y.QL:Int),0,y.xin,y.dffs,y.d0,y.d1,y.bus,y.mem,y.w0,y.w1,y.w2,y.w3,y.Ql,y.Qn,y.QN,y.QL,0,0,y.nd,[]⟩) λy=>bindO (iter s5 ⟨y.n,0,y.xin,y.dffs,y.d0,y.d1,y.bus,y.mem,y.w0,y.w1,y.w2,y.w3,y.Ql,y.Qn,y.QN,y.QL,y.nm,0,0,y.nd,[]⟩) λy=>bif eqN y.Ym 0&&eqN y.oxs.length y.JC&&J1 (y.JC+1) 8 then bif leB (y.QN+y.QL) y.nd.length&&(leB (0+(y.JC+1)) (y.oxs++[i64.wrap (y.n - 1)]).length&&true)&&true&&true then some (List.take y.QL (List.drop y.QN y.nd),y.nm,[],List.take (y.JC+1) (List.drop 0 (y.oxs++[i64.wrap (y.n - 1)]))) else none else none
def m_eq(x:gX):exec E0 178 C22 0 (Zd 0 (g.A x)) (g.H x) (finish 0 ty [.cell 2 34] f)=m x:=by kernel_rfl
def tl:Xr C22 0=[(0,C22.QR 0),(1,C22.QR 1),(2,C22.QR 2),(3,C22.QR 3),(4,C22.QR 4),(5,C22.QR 5)]:=by kernel_rfl
def known:QQ prog 22 g f m:=
 mk_known mixed (env_ok ty_ok cl_ok _) s22 rfl rfl tl (QX.cons rfl l0_ok (QX.cons rfl l1_ok (QX.cons rfl l2_ok (QX.skip rfl (QX.cons rfl l4_ok (QX.cons rfl l5_ok QX.nil)))))) (λ_ _=>⟨rfl,rfl⟩) (λ_ _=>⟨rfl,rfl⟩) m_eq
end M22
namespace M5
structure gX where(xin dffs d0 d1:Int)(bus mem:Bool)(w0 w1 w2 w3:Int)(Ql:List ((Int)×(Int)×(Int)×Int))(Qn:TI)
def g:Sg gX:=⟨[.agg [iB,iB,iB,iB,.bo,.bo,iB,iB,iB,iB,.arr (.pair lB (.pair lB (.pair lB lB))),aB]],[],λa b=>⟨a.1.1,a.1.2.1,a.1.2.2.1,a.1.2.2.2.1,a.1.2.2.2.2.1,a.1.2.2.2.2.2.1,a.1.2.2.2.2.2.2.1,a.1.2.2.2.2.2.2.2.1,a.1.2.2.2.2.2.2.2.2.1,a.1.2.2.2.2.2.2.2.2.2.1,a.1.2.2.2.2.2.2.2.2.2.2.1,a.1.2.2.2.2.2.2.2.2.2.2.2.1⟩,λx=>((x.xin,(x.dffs,(x.d0,(x.d1,(x.bus,(x.mem,(x.w0,(x.w1,(x.w2,(x.w3,(x.Ql,(x.Qn,())))))))))))),()),λx=>()⟩
abbrev fY:=TN×TS×TM×TI
def f:Ft fY:=⟨none,.agg cir4,[],λa b=>(a.1,a.2.1,a.2.2.1,a.2.2.2.1),λy=>(y.1,(y.2.1,(y.2.2.1,(y.2.2.2,())))),λy=>()⟩
def m(x:gX):Option fY:=bindO (M22.m ⟨x.xin,x.dffs,x.d0,x.d1,x.bus,false,x.w0,x.w1,x.w2,x.w3,x.Ql,x.Qn⟩) λy=>some (y.1,y.2.1,y.2.2.1,y.2.2.2)
def known:QQ prog 5 g f m:=
 kc0 [ck M22.known] s5
end M5
namespace Co
abbrev inpN:Int×List Int×Int×Int:=(0,[],0,0)
abbrev dffN:Int×List Int×Int×Int:=(14,[0],0,0)
def Bd.nil:Bd []:=⟨λi hi=>by cases hi⟩
def bd_inp:∀i,Bd (List.replicate i inpN)
 |0=>Bd.nil
 |i+1=>by rw[List.replicate_succ'];exact(bd_inp i).snoc ⟨Int.le_refl _,by decide,AO rfl,AO rfl,AO rfl,λa ha=>(by cases ha),λh=>(by cases h),λh=>absurd h (by decide),rfl,rfl⟩
def bd_dff{i:Nat}(h:0<i):∀j,Bd (List.replicate i inpN++List.replicate j dffN)
 |0=>by rw[List.replicate_zero,Bn];exact bd_inp i
 |j+1=>by rw[List.replicate_succ',<-Ad];refine(bd_dff h j).snoc ⟨by decide,by decide,AO rfl,AO rfl,AO rfl,λa ha=> ?_,λh=>(by cases h),λh=>absurd h (by decide),rfl,rfl⟩;have ha:a∈([0]:List Int):=ha;rw[Ae.1 ha];exact⟨Int.le_refl _,by simp;omega⟩
def putN(nd:NodeL)(i:Nat)(v:Int):NodeL:=nd.set i ((nd[i]?.getD (0,[],0,0)).1,[v],(nd[i]?.getD (0,[],0,0)).2.2.1,(nd[i]?.getD (0,[],0,0)).2.2.2)
def putN_eq{nd:NodeL}{i:Nat}{v:Int}(hi:i<nd.length):List.take i nd++((nd[i]?.getD (0,[],0,0)).1,[v],(nd[i]?.getD (0,[],0,0)).2.2.1,(nd[i]?.getD (0,[],0,0)).2.2.2)::List.drop (i+1) nd=putN nd i v:=by unfold putN;rw[List.set_eq_take_append_cons_drop,AC hi]
def putN_len{nd:NodeL}{i:Nat}{v:Int}:(putN nd i v).length=nd.length:=Ap
def putN_kd{nd:NodeL}{i:Nat}{v a:Int}:kd (putN nd i v) a=kd nd a:=by
 unfold kd putN;rw[BM];by_cases e:i=a.toNat
 ·subst e;by_cases hi:a.toNat<nd.length
  ·rw[AC rfl,AC hi];rfl
  ·rw[AC rfl,AK hi,B5 (by omega)]
 ·rw[AK e]
def putN_at{nd:NodeL}{i j:Nat}{v:Int}(h:i≠j):(putN nd i v)[j]?.getD (0,[],0,0)=nd[j]?.getD (0,[],0,0):=by unfold putN;rw[BM,AK h]
def Bd.put{nd:NodeL}(h:Bd nd){i:Nat}(hi:i<nd.length){v:Int}(hv:In nd.length v)(hk:(nd[i]?.getD (0,[],0,0)).1=14):Bd (putN nd i v) where
 nn:=λj hj=>by
  rw[putN_len]at hj⊢;have h2:(putN nd i v)[j]'(by rw[putN_len];exact hj)=if i=j then ((nd[i]?.getD (0,[],0,0)).1,[v],(nd[i]?.getD (0,[],0,0)).2.2.1,(nd[i]?.getD (0,[],0,0)).2.2.2) else nd[j]:=by unfold putN;rw[BV]
  rw[h2];by_cases e:i=j
  ·subst e;rw[AC rfl,hk];have g:=h.nn i hi;rw[A4 hi,Aj];refine⟨AO rfl,AO rfl,AO rfl,AO rfl,AO rfl,λa ha=> ?_,λh=>(by cases h),λh=>absurd h (by show¬(14:Int)=13;omega),g.mem,g.bit⟩;have ha:a∈[v]:=ha;rw[Ae.1 ha];exact hv
  ·rw[AK e];have g:=h.nn j hj;exact { g with tri:=λhk a ha=>by rw[putN_kd];exact g.tri hk a ha }
structure Xc(xi df d0 d1:Int)(gs:List (Int×Int×Int×Int))(xo:List Int):Prop where
 xi:B8 xi
 df:B8 df
 d0:B8 d0
 d1:B8 d1
 gs:∀g∈gs,B8 g.1/\B8 g.2.1/\B8 g.2.2.1/\B8 g.2.2.2
 xo:∀o∈xo,B8 o
def rem8{x:Int}(h:B8 x){k:Nat}(hk:0<k)(hk':k<=100):∃r:Nat,i64.wrap (x.tmod (k:Int))=(r:Int)/\r<k:=by have e:x.tmod (k:Int)=x%(k:Int):=Bb h.1;have h1:0<=x%(k:Int):=Int.emod_nonneg _ (by omega);have h2:x%(k:Int)<(k:Int):=Cr _ (by omega);refine⟨(x%(k:Int)).toNat,?_,by omega⟩;rw[e,w64 (by omega) (by omega)];omega
def m52{i:Nat}(h:i<100):M52.m ⟨(i:Int)⟩=some (M52.nm i):=by unfold M52.m;exact AC ⟨by show(0:Int)<=i;omega,by show(i:Int)<100;omega⟩
section
variable {xi df d0 d1 w0 w1 w2 w3:Int}{bus:Bool}{gs:List (Int×Int×Int×Int)}{xo:List Int}
def m22_4{nd:NodeL}{n:Nat}(hn:n<=14):iter M22.s4 ⟨(n:Int),0,xi,df,d0,d1,bus,false,w0,w1,w2,w3,gs,xo,0,n,0,0,nd,[]⟩=some ⟨(n:Int),xi,df,d0,d1,bus,false,w0,w1,w2,w3,gs,xo,0,n,(List.range n).map M52.nm,nd⟩:=by
 have key:=iter_count (step:=M22.s4) (λi=>⟨(n:Int),(i:Int),xi,df,d0,d1,bus,false,w0,w1,w2,w3,gs,xo,0,n,0,i,nd,(List.range i).map M52.nm⟩) (y:=⟨(n:Int),xi,df,d0,d1,bus,false,w0,w1,w2,w3,gs,xo,0,n,(List.range n).map M52.nm,nd⟩) n (λi hi=>by
  have c1:=ilt (a:=(i:Int)) (b:=(n:Int)) (by omega);have e:(List.range (i+1)).map M52.nm=(List.range i).map M52.nm++[M52.nm i]:=(by rw[Br,AS];rfl);unfold M22.s4;simp only[c1,A6,m52 (i:=i) (by omega),bindO,eqN_of rfl,eqN_of (show((List.range i).map M52.nm).length=i by simp),room (n:=i+1) (b:=16) (by omega) (by omega),AH,suc (i:=i) (by omega),e]) (by
  have c1:=inlt (a:=(n:Int)) (b:=(n:Int)) (by omega);unfold M22.s4;simp only[c1,A7,AF,AE,List.length_range,leB_of (A5 _),AH,A6,AW];rw[AN (by simp)])
 exact key
def oxn(xo:List Int)(n i:Nat):List Int:=(xo.take i).map λo=>(i64.wrap o).tmod (n:Int)
def m22_5{nd:NodeL}{nm:List (List UInt8)}{n:Nat}(h0:0<n)(hn:n<=14):iter M22.s5 ⟨(n:Int),0,xi,df,d0,d1,bus,false,w0,w1,w2,w3,gs,xo,0,n,nm,0,0,nd,[]⟩=some ⟨(n:Int),0,n,nm,0,min xo.length 3,nd,oxn xo n (min xo.length 3)⟩:=by
 have key:=iter_count (step:=M22.s5) (λi=>⟨(n:Int),(i:Int),xi,df,d0,d1,bus,false,w0,w1,w2,w3,gs,xo,0,n,nm,0,i,nd,oxn xo n i⟩) (y:=⟨(n:Int),0,n,nm,0,min xo.length 3,nd,oxn xo n (min xo.length 3)⟩) (min xo.length 3) (λi hi=>by
  have hi1:i<xo.length:=(by omega);have c1:=ilt (a:=(i:Int)) (b:=(xo.length:Int)) (by omega);have c2:=ilt (a:=(i:Int)) (b:=3) (by omega);have hl:(oxn xo n i).length=i:=(by simp[oxn];omega);have e:oxn xo n (i+1)=oxn xo n i++[(i64.wrap xo[i]).tmod (n:Int)]:=(by unfold oxn;rw[take_succ' hi1,AS];rfl);unfold M22.s5;simp only[c1,c2,A6,inR_nat hi1,nzN h0,eqN_of rfl,eqN_of hl,room (n:=i+1) (b:=8) (by omega) (by omega),AH,suc (i:=i) (by omega),getD_at hi1,e]) (by
  have c1:(bif decide (((min xo.length 3:Nat):Int)<(xo.length:Int)) then decide (((min xo.length 3:Nat):Int)<3) else false)=false:=by
   by_cases h:xo.length<=3
   ·rw[inlt (a:=((min xo.length 3:Nat):Int)) (b:=(xo.length:Int)) (by omega)];rfl
   ·rw[inlt (a:=((min xo.length 3:Nat):Int)) (b:=3) (by omega)];cases decide (((min xo.length 3:Nat):Int)<(xo.length:Int))<;>rfl
  unfold M22.s5;simp only[c1,A7])
 exact key
structure Ofd(N:NodeL)(C:List Int):Prop where
 bd:Bd N
 l0:0<N.length
 l1:N.length<=14
 oc:∀a∈C,In N.length a
 lc:C.length<=4
def m22(h:Xc xi df d0 d1 gs xo):∃N C,M22.m ⟨xi,df,d0,d1,bus,false,w0,w1,w2,w3,gs,xo⟩=some (N,(List.range N.length).map M52.nm,[],C)/\Ofd N C:=by
 obtain⟨a,ha,ha4⟩:=rem8 h.xi (k:=4) (by omega) (by omega);obtain⟨b,hb,hb3⟩:=rem8 h.df (k:=3) (by omega) (by omega);have ha:i64.wrap (xi.tmod 4)=(a:Int):=ha;have hb:i64.wrap (df.tmod 3)=(b:Int):=hb;have k0:=iter_count (step:=M22.s0) (λi=>⟨(i:Int),xi,df,d0,d1,bus,false,w0,w1,w2,w3,gs,xo,0,i,List.replicate i inpN⟩) (y:=⟨xi,df,d0,d1,bus,false,w0,w1,w2,w3,gs,xo,0,a+1,List.replicate (a+1) inpN⟩) (a+1) (λi hi=>by
  have c1:decide ((i:Int)<=(a:Int))=true:=AB (by omega);unfold M22.s0;simp only[ha,c1,A6,eqN_of rfl,Bk,room (n:=i+1) (b:=48) (by omega) (by omega),AH,suc (i:=i) (by omega)];rw[<-List.replicate_succ']) (by
  have c1:decide (((a+1:Nat):Int)<=(a:Int))=false:=AM (by omega);unfold M22.s0;simp only[ha,c1,A7])
 have k1:=iter_count (step:=M22.s1) (λj=>⟨((a+1:Nat):Int),(b:Int),(j:Int),xi,df,d0,d1,bus,false,w0,w1,w2,w3,gs,xo,0,a+1+j,List.replicate (a+1) inpN++List.replicate j dffN⟩) (y:=⟨((a+1:Nat):Int),(b:Int),xi,df,d0,d1,bus,false,w0,w1,w2,w3,gs,xo,0,a+1+b,List.replicate (a+1) inpN++List.replicate b dffN⟩) b (λj hj=>by
  have c1:=ilt (a:=(j:Int)) (b:=(b:Int)) (by omega);have e:List.replicate (a+1) inpN++List.replicate (j+1) dffN=List.replicate (a+1) inpN++List.replicate j dffN++[dffN]:=(by rw[List.replicate_succ' (n:=j),Ad]);unfold M22.s1;simp only[c1,A6,eqN_of rfl,eqN_of (show(List.replicate (a+1) inpN++List.replicate j dffN).length=a+1+j by simp),room (n:=a+1+j+1) (b:=48) (by omega) (by omega),AH,suc (i:=j) (by omega),e];rfl) (by
  have c1:=inlt (a:=(b:Int)) (b:=(b:Int)) (by omega);unfold M22.s1;simp only[c1,A7])
 obtain⟨y,k2,nd,e2,B,L1,L2,t,T⟩:=iter_inv (step:=M22.s2) (λx=>∃(i:Nat) (nd:NodeL),x=(⟨((a+1:Nat):Int),(b:Int),(i:Int),xi,df,d0,d1,bus,false,w0,w1,w2,w3,gs,xo,0,nd.length,nd⟩:M22.p2X)/\i<=8/\Bd nd/\a+1+b+i=nd.length/\∃t,nd=(List.replicate (a+1) inpN++List.replicate b dffN)++t) (λx=>8 - x.i.toNat)
  (λy=>∃nd:NodeL,y=(⟨((a+1:Nat):Int),(b:Int),xi,df,d0,d1,bus,false,w0,w1,w2,w3,gs,xo,0,nd.length,nd⟩:M22.q2X)/\Bd nd/\a+1+b<=nd.length/\nd.length<=14/\∃t,nd=(List.replicate (a+1) inpN++List.replicate b dffN)++t) (by
   rintro x ⟨i,nd,rfl,hi,B,L,t,T⟩;unfold M22.s2;by_cases hlt:i<gs.length/\i<8
   ·have c1:=ilt (a:=(i:Int)) (b:=(gs.length:Int)) (by omega);have c2:=ilt (a:=(i:Int)) (b:=8) (by omega);have hg:=h.gs _ (A9 hlt.1);have e:gs[(i:Int).toNat]?.getD (0,0,0,0)=gs[i]:=getD_at hlt.1 _;obtain⟨k,p,g1,g2⟩:=m51 (xi:=xi) (df:=df) (d0:=d0) (d1:=d1) (w0:=w0) (w1:=w1) (w2:=w2) (w3:=w3) (bus:=bus) (mem:=false) (gs:=gs) (xo:=xo) (nd:=nd) (by omega) (by omega) hg.1 hg.2.1 hg.2.2.1 hg.2.2.2;simp only[c1,c2,A6,inR_nat hlt.1,e,g1,bindO,eqN_of rfl,room (n:=nd.length+1) (b:=48) (by omega) (by omega),AH,suc (i:=i) (by omega)];exact⟨_,rfl,⟨i+1,nd++[(k,p,0,0)],by simp,by omega,B.snoc g2,by simp;omega,t++[(k,p,0,0)],by rw[T];simp⟩,by simp;omega⟩
   ·have c:(bif decide ((i:Int)<(gs.length:Int)) then decide ((i:Int)<8) else false)=false:=by
     by_cases h1:i<gs.length
     ·have:¬i<8:=λh2=>hlt ⟨h1,h2⟩;rw[inlt (a:=(i:Int)) (b:=8) (by omega)];cases decide ((i:Int)<(gs.length:Int))<;>rfl
     ·rw[inlt (a:=(i:Int)) (b:=(gs.length:Int)) (by omega)];rfl
    simp only[c,A7];exact⟨_,rfl,nd,rfl,B,by omega,by omega,t,T⟩) ⟨((a+1:Nat):Int),(b:Int),((0:Nat):Int),xi,df,d0,d1,bus,false,w0,w1,w2,w3,gs,xo,0,(List.replicate (a+1) inpN++List.replicate b dffN).length,List.replicate (a+1) inpN++List.replicate b dffN⟩ ⟨0,_,rfl,by omega,bd_dff (by omega) b,by simp,[],by simp⟩
 have hlen:(List.replicate (a+1) inpN++List.replicate b dffN).length=a+1+b:=by simp
 rw[hlen]at k2;have kdf:∀j,j<b->(nd[a+1+j]?.getD (0,[],0,0)).1=14:=λj hj=>by rw[T,AL (by rw[hlen];omega),AU (by simp),Bk,show a+1+j - (a+1)=j by omega];simp[hj]
 have hn0:0<nd.length:=by omega
 -- the outputs
 have fin:∀N:NodeL,N.length=nd.length->Bd N->∃C,(oxn xo nd.length (min xo.length 3)++[i64.wrap ((nd.length:Int) - 1)])=C/\Ofd N C:=λN hN hB=>by
  refine⟨_,rfl,hB,by omega,by omega,λx hx=> ?_,?_⟩
  ·rw[hN];rcases Ak.1 hx with hx|hx
   ·unfold oxn at hx;obtain⟨o,ho,rfl⟩:=BR.1 hx;exact modIn (h.xo o (Ci ho)) hn0
   ·rw[Ae.1 hx,w64 (by omega) (by omega)];exact⟨by omega,by omega⟩
  ·simp[oxn];omega
 have hol:(oxn xo nd.length (min xo.length 3)).length=min xo.length 3:=by simp[oxn]
 have k0':iter M22.s0 { i:=0,xin:=xi,dffs:=df,d0:=d0,d1:=d1,bus:=bus,mem:=false,w0:=w0,w1:=w1,w2:=w2,w3:=w3,Ql:=gs,Qn:=xo,QN:=0,QL:=0,nd:=[] }=_:=k0;have k1':iter M22.s1 { first:=((a+1:Nat):Int),df:=(b:Int),i:=0,xin:=xi,dffs:=df,d0:=d0,d1:=d1,bus:=bus,mem:=false,w0:=w0,w1:=w1,w2:=w2,w3:=w3,Ql:=gs,Qn:=xo,QN:=0,QL:=a+1,nd:=List.replicate (a+1) inpN }=some ⟨((a+1:Nat):Int),(b:Int),xi,df,d0,d1,bus,false,w0,w1,w2,w3,gs,xo,0,a+1+b,List.replicate (a+1) inpN++List.replicate b dffN⟩:=by have:=k1;simp only[List.replicate_zero,Bn,BK]at this;exact this
 have k2':iter M22.s2 { first:=((a+1:Nat):Int),df:=(b:Int),i:=0,xin:=xi,dffs:=df,d0:=d0,d1:=d1,bus:=bus,mem:=false,w0:=w0,w1:=w1,w2:=w2,w3:=w3,Ql:=gs,Qn:=xo,QN:=0,QL:=a+1+b,nd:=List.replicate (a+1) inpN++List.replicate b dffN }=some y:=k2;unfold M22.m;simp only[k0',hb,k1',k2',e2,bindO,A7];have v0:=modIn (n:=nd.length) h.d0 hn0;have v1:=modIn (n:=nd.length) h.d1 hn0;have x0:i64.wrap (((a+1:Nat):Int)+0)=((a+1:Nat):Int):=by rw[Int.add_zero];exact w64 (by omega) (by omega)
 have x1:i64.wrap (0+1)=1:=w64 (by omega) (by omega);have x2:i64.wrap (((a+1:Nat):Int)+1)=((a+1+1:Nat):Int):=by rw[w64 (by omega) (by omega)];omega
 have x3:i64.wrap (1+1)=2:=w64 (by omega) (by omega);have lo:∀N:NodeL,N.length=nd.length->List.take nd.length N=N:=λN hN=>AN (by omega);have l1:(oxn xo nd.length (min xo.length 3)++[i64.wrap ((nd.length:Int) - 1)]).length=min xo.length 3+1:=by rw[AG,hol];rfl
 have l2:List.take (min xo.length 3+1) (oxn xo nd.length (min xo.length 3)++[i64.wrap ((nd.length:Int) - 1)])=oxn xo nd.length (min xo.length 3)++[i64.wrap ((nd.length:Int) - 1)]:=AN (by omega);have hb':b=0\/b=1\/b=2:=by omega
 rcases hb' with rfl|rfl|rfl
 ·have c0:decide (0<((0:Nat):Int))=false:=rfl;obtain⟨C,hC,hO⟩:=fin nd rfl B;have l1':C.length=min xo.length 3+1:=(by rw[<-hC];exact l1);have l2':List.take (min xo.length 3+1) C=C:=(by rw[<-hC];exact l2);refine⟨nd,C,?_,hO⟩;simp only[c0,A7,m22_4 (nd:=nd) L2,bindO,m22_5 (nd:=nd) hn0 L2,eqN_of rfl,eqN_of hol,room (n:=min xo.length 3+1) (b:=8) (by omega) (by omega),AH,A6,AF,leB_of (A5 _),hC,l1',l2',AW,lo nd rfl]
 ·have c0:decide (0<((1:Nat):Int))=true:=rfl;have c1:decide ((1:Int)<((1:Nat):Int))=false:=rfl;have i1:a+1<nd.length:=(by omega);have B1:=B.put i1 v0 (by have:=kdf 0 (by omega);exact this);obtain⟨C,hC,hO⟩:=fin (putN nd (a+1) ((i64.wrap d0).tmod (nd.length:Int))) putN_len B1;have l1':C.length=min xo.length 3+1:=(by rw[<-hC];exact l1);have l2':List.take (min xo.length 3+1) C=C:=(by rw[<-hC];exact l2);refine⟨_,C,?_,hO⟩;simp only[c0,A6,nzN hn0,x0,inR_nat i1,AF,AA,dlt i1,x1,c1,A7,putN_eq i1,m22_4 (nd:=putN nd (a+1) ((i64.wrap d0).tmod (nd.length:Int))) L2,bindO,m22_5 (nd:=putN nd (a+1) ((i64.wrap d0).tmod (nd.length:Int))) hn0 L2,eqN_of rfl,eqN_of hol,room (n:=min xo.length 3+1) (b:=8) (by omega) (by omega),AH,putN_len,leB_of (A5 _),hC,l1',l2',AW,lo _ (putN_len (nd:=nd) (i:=a+1) (v:=(i64.wrap d0).tmod (nd.length:Int)))]
 ·have c0:decide (0<((2:Nat):Int))=true:=rfl;have c1:decide ((1:Int)<((2:Nat):Int))=true:=rfl;have c2:decide ((2:Int)<((2:Nat):Int))=false:=rfl;have i1:a+1<nd.length:=(by omega);have i2:a+1+1<nd.length:=(by omega);have B1:=B.put i1 v0 (by have:=kdf 0 (by omega);exact this);have i2':a+1+1<(putN nd (a+1) ((i64.wrap d0).tmod (nd.length:Int))).length:=(by rw[putN_len];exact i2);have B2:=B1.put (i:=a+1+1) i2' (v:=(i64.wrap d1).tmod (nd.length:Int)) (by rw[putN_len];exact v1) (by rw[putN_at (by omega)];exact kdf 1 (by omega));have P2:(putN (putN nd (a+1) ((i64.wrap d0).tmod (nd.length:Int))) (a+1+1) ((i64.wrap d1).tmod (nd.length:Int))).length=nd.length:=(by rw[putN_len,putN_len]);obtain⟨C,hC,hO⟩:=fin (putN (putN nd (a+1) ((i64.wrap d0).tmod (nd.length:Int))) (a+1+1) ((i64.wrap d1).tmod (nd.length:Int))) P2 B2;have l1':C.length=min xo.length 3+1:=(by rw[<-hC];exact l1);have l2':List.take (min xo.length 3+1) C=C:=(by rw[<-hC];exact l2);refine⟨_,C,?_,hO⟩;simp only[c0,A6,nzN hn0,x0,inR_nat i1,AF,AA,dlt i1,x1,c1,x2,inR_nat i2,putN_eq i1,dlt i2',x3,c2,A7,putN_eq i2',m22_4 (nd:=putN (putN nd (a+1) ((i64.wrap d0).tmod (nd.length:Int))) (a+1+1) ((i64.wrap d1).tmod (nd.length:Int))) L2,bindO,m22_5 (nd:=putN (putN nd (a+1) ((i64.wrap d0).tmod (nd.length:Int))) (a+1+1) ((i64.wrap d1).tmod (nd.length:Int))) hn0 L2,eqN_of rfl,eqN_of hol,room (n:=min xo.length 3+1) (b:=8) (by omega) (by omega),AH,P2,leB_of (A5 _),hC,l1',l2',AW,lo _ P2]
end
end Co
namespace Co
def Ofd.ck{N:NodeL}{C:List Int}(h:Ofd N C):Ck N ((List.range N.length).map M52.nm) C where
 some':=h.l0
 few:=by have:=h.l1;omega
 nd:=λx hx=>by obtain⟨i,hi,rfl⟩:=BB hx;have g:=h.bd.nn i hi;exact⟨g.k0,g.k1,g.f0,g.f1,g.pins,g.tri,g.mem,g.bit,by have:=g.few;omega⟩
 nm:=.inl ⟨by simp,by have:=h.l0;simp;omega,by have:=h.l1;simp;omega⟩
 ln:=by simp
 Q3:=h.oc
 fewC:=by have:=h.lc;omega
def Ofd.tp{N:NodeL}{C:List Int}(h:Ofd N C):Topo N:=λi hi hc a ha=>by
 have g:=h.bd.nn i hi;have e1:N[i]?.getD (0,[],0,0)=N[i]:=by rw[A4 hi];rfl
 unfold cm at hc;unfold pn at ha;rw[e1]at hc ha;exact⟨(g.pins a ha).1,g.low hc a ha⟩
def m5{xi df d0 d1 w0 w1 w2 w3:Int}{bus mem:Bool}{gs:List (Int×Int×Int×Int)}{xo:List Int}(h:Xc xi df d0 d1 gs xo):∃N C,M5.m ⟨xi,df,d0,d1,bus,mem,w0,w1,w2,w3,gs,xo⟩=some (N,(List.range N.length).map M52.nm,[],C)/\Ofd N C:=by obtain⟨N,C,h1,h2⟩:=m22 (w0:=w0) (w1:=w1) (w2:=w2) (w3:=w3) (bus:=bus) h;refine⟨N,C,?_,h2⟩;unfold M5.m;simp only[h1,bindO]
section
variable {N:NodeL}{A:List (List UInt8)}{C:List Int}
end
end Co
namespace M11
structure gX where(Q0:TN)(Q1:TS)(Q4:TM)(Q3:TI)(lg:List ((Int)×(Bool)×Int))
def g:Sg gX:=⟨[.agg cir4,.c (.arr (.pair lI (.pair .bool lI)))],[],λa b=>⟨a.1.1,a.1.2.1,a.1.2.2.1,a.1.2.2.2.1,a.2.1⟩,λx=>((x.Q0,(x.Q1,(x.Q4,(x.Q3,())))),(x.lg,())),λx=>()⟩
abbrev fY:=TI×Int
def f:Ft fY:=⟨none,.tup [.inl (aI),.inl (iI)],[],λa b=>(a.1,a.2.1),λy=>(y.1,(y.2,())),λy=>()⟩
def cl:List CK:=[ck M24.known,⟨35,M35.con,M35.con_ok⟩,ck M36.known,ck M37.known,⟨34,M34o.con,M34o.con_ok⟩]
structure p2X where(QC Q8 JO J8 JG:Nat)(n i:Int)(xs:List (Bool))(os:TI)
def p2:Pt p2X:=⟨[.reg 15 (.int .i64)],⟨[(15,.c (.sl 2 0 1)),(68,.c (.slc 1 0 1)),(69,cI),(70,cI)],[.st [jk,jk,jk,jk] 1 0,.arr .bool 0,oI]⟩,λ(((a,b),(c,d,e),f,g,_),_,h,i,_)=>⟨a,b,c,d,e,f,g,h,i⟩,λx=>(((x.QC,x.Q8),((x.JO,x.J8,x.JG),(x.n,(x.i,())))),(((),((),((),((),())))),(x.xs,(x.os,()))))⟩
structure q2X where(QC Q8:Nat)(xs:List (Bool))(os:TI)
def q2:Pt q2X:=⟨[],⟨[(15,.c (.sl 2 0 1))],[.st [jk,jk,jk,jk] 1 0,.arr .bool 0,oI]⟩,λ(((a,b),_),_,c,d,_)=>⟨a,b,c,d⟩,λx=>(((x.QC,x.Q8),()),(((),((),((),((),())))),(x.xs,(x.os,()))))⟩
def s2(x:p2X):Option (p2X⊕q2X):=bif decide (x.i<x.n) then bif inR x.i x.J8 then bif decide (x.JO+x.i.toNat<x.xs.length) then bif x.xs[x.JO+x.i.toNat]?.getD false then bif eqN x.QC 0&&eqN x.os.length x.Q8&&J1 (x.Q8+1) 8 then some (inl ⟨0,x.Q8+1,x.JO,x.J8,x.JG,x.n,i64.wrap (x.i+1),x.xs,x.os++[x.i]⟩) else none else some (inl ⟨x.QC,x.Q8,x.JO,x.J8,x.JG,x.n,i64.wrap (x.i+1),x.xs,x.os⟩) else none else none else some (inr ⟨x.QC,x.Q8,x.xs,x.os⟩)
def l2:QT:=Qa 0 p2 (.exit 4) q2 s2
def l2_ok  :QO prog 83 none 0 (C11.QR 2) l2:=lc cl 3 (λ_=>none) QX.nil
structure p1X where(JO J8 JG:Nat)(ss:TI)(lg:List ((Int)×(Bool)×Int))(n i:Int)(ins:List (Bool))(m j:Int)(Q0:TN)(Q1:TS)(Q4:TM)(Q3:TI)(xs:List (Bool))
def p1:Pt p1X:=⟨[],⟨[(2,cP),(8,.c (.slc 1 0 1)),(9,cA),(33,.c (.arr (.pair lI (.pair .bool lI)))),(34,cI),(35,cI),(12,.c (.arr .bool)),(49,cI),(50,cI)],[oC,.arr .bool 0,.st [jk,jk,jk] 1 0]⟩,λ((_,(a,b,c),d,e,f,g,h,i,j,_),(k,l,m,n,_),o,_)=>⟨a,b,c,d,e,f,g,h,i,j,k,l,m,n,o⟩,λx=>(((),((x.JO,x.J8,x.JG),(x.ss,(x.lg,(x.n,(x.i,(x.ins,(x.m,(x.j,()))))))))),((x.Q0,(x.Q1,(x.Q4,(x.Q3,())))),(x.xs,(((),((),((),()))),()))))⟩
structure q1X where(JO J8 JG:Nat)(ss:TI)(lg:List ((Int)×(Bool)×Int))(n i:Int)(Q0:TN)(Q1:TS)(Q4:TM)(Q3:TI)(xs:List (Bool))
def q1:Pt q1X:=⟨[],⟨[(2,cP),(8,.c (.slc 1 0 1)),(9,cA),(33,.c (.arr (.pair lI (.pair .bool lI)))),(34,cI),(35,cI)],[oC,.arr .bool 0,.st [jk,jk,jk] 1 0]⟩,λ((_,(a,b,c),d,e,f,g,_),(h,i,j,k,_),l,_)=>⟨a,b,c,d,e,f,g,h,i,j,k,l⟩,λx=>(((),((x.JO,x.J8,x.JG),(x.ss,(x.lg,(x.n,(x.i,())))))),((x.Q0,(x.Q1,(x.Q4,(x.Q3,())))),(x.xs,(((),((),((),()))),()))))⟩
def s1(x:p1X):Option (p1X⊕q1X):=bif decide (x.j<x.m) then bif inR x.j x.J8 then bif decide (x.JO+x.j.toNat<x.xs.length) then bif inR x.j x.ins.length||!x.xs[x.JO+x.j.toNat]?.getD false then bif inR x.j x.J8 then bif decide (x.JO+x.j.toNat<x.xs.length) then some (inl ⟨x.JO,x.J8,x.JG,x.ss,x.lg,x.n,x.i,x.ins,x.m,i64.wrap (x.j+1),x.Q0,x.Q1,x.Q4,x.Q3,x.xs.set (x.JO+x.j.toNat) (bif x.xs[x.JO+x.j.toNat]?.getD false then x.ins[x.j.toNat]?.getD false else false)⟩) else none else none else none else none else none else some (inr ⟨x.JO,x.J8,x.JG,x.ss,x.lg,x.n,x.i,x.Q0,x.Q1,x.Q4,x.Q3,x.xs⟩)
def l1:QT:=Qa 0 p1 (.exit 2) q1 s1
def l1_ok  :QO prog 83 none 0 (C11.QR 1) l1:=lc cl 2 (J2 [(2,l2)]) QX.nil
structure p0X where(JO J8 JG:Nat)(ss:TI)(lg:List ((Int)×(Bool)×Int))(n i:Int)(Q0:TN)(Q1:TS)(Q4:TM)(Q3:TI)(xs:List (Bool))
def p0:Pt p0X:=⟨[],⟨[(2,cP),(8,.c (.slc 1 0 1)),(9,cA),(33,.c (.arr (.pair lI (.pair .bool lI)))),(34,cI),(35,cI)],[oC,.arr .bool 0]⟩,λ((_,(a,b,c),d,e,f,g,_),(h,i,j,k,_),l,_)=>⟨a,b,c,d,e,f,g,h,i,j,k,l⟩,λx=>(((),((x.JO,x.J8,x.JG),(x.ss,(x.lg,(x.n,(x.i,())))))),((x.Q0,(x.Q1,(x.Q4,(x.Q3,())))),(x.xs,())))⟩
structure q0X where(JO J8 JG:Nat)(xs:List (Bool))
def q0:Pt q0X:=⟨[],⟨[(8,.c (.slc 1 0 1))],[.st [jk,jk,jk,jk] 1 0,.arr .bool 0]⟩,λ(((a,b,c),_),_,d,_)=>⟨a,b,c,d⟩,λx=>(((x.JO,x.J8,x.JG),()),(((),((),((),((),())))),(x.xs,())))⟩
structure z0X where(r:Int)
def z0:Pt z0X:=⟨[],⟨[(4,.c (.nils)),(5,cI)],[]⟩,λv=>⟨v.1.2.1⟩,λx=>(((),(x.r,())),())⟩
def s0(x:p0X):Option (p0X⊕(q0X⊕z0X)):=bif decide (x.i<x.n) then bif inR x.i x.lg.length then bindO (M37.m ⟨x.Q0,x.Q1,x.Q4,x.Q3,x.ss,(x.lg[x.i.toNat]?.getD (0,false,0)).1,(x.lg[x.i.toNat]?.getD (0,false,0)).2.1,(x.lg[x.i.toNat]?.getD (0,false,0)).2.2⟩) λy=>bif !y.2 then some (inr (inr ⟨1⟩)) else bindO (iter s1 ⟨x.JO,x.J8,x.JG,x.ss,x.lg,x.n,x.i,y.1,(x.J8:Int),0,x.Q0,x.Q1,x.Q4,x.Q3,x.xs⟩) λy=>some (inl ⟨y.JO,y.J8,y.JG,y.ss,y.lg,y.n,i64.wrap (y.i+1),y.Q0,y.Q1,y.Q4,y.Q3,y.xs⟩) else none else some (inr (inl ⟨x.JO,x.J8,x.JG,x.xs⟩))
def l0:QT:=JW 0 p0 (.exit 0) q0 .ret z0 s0
def l0_ok  :QO prog 83 none 0 (C11.QR 0) l0:=lc2 cl 1 (J2 [(1,l1),(2,l2)]) (ac 1 l1_ok QX.nil)
def m(x:gX):Option fY:=bindO (M24.m ⟨x.Q0,x.Q1,x.Q4,x.Q3⟩) λy=>bif y.2 !=0 then some ([],y.2) else bindO (M35.m ⟨[true],(x.Q0.length:Int)⟩) λy=>bindO (M36.m ⟨x.Q0,x.Q1,x.Q4,x.Q3⟩) λy_1=>bindO (iter s0 ⟨y.1,y.2.1,y.2.2.1,y_1,x.lg,(x.lg.length:Int),0,x.Q0,x.Q1,x.Q4,x.Q3,y.2.2.2⟩) λs=>sumC s (λy=>bindO (iter s2 ⟨0,0,y.JO,y.J8,y.JG,(y.J8:Int),0,y.xs,[]⟩) λy=>bindO (M34o.m ⟨y.QC,y.Q8,y.os⟩) λy=>bif leB (y.1+y.2.1) y.2.2.2.length&&true&&true&&true then some (List.take y.2.1 (List.drop y.1 y.2.2.2),0) else none) λz=>some ([],z.r)
def known:QQ prog 11 g f m:=
 kc cl s11 (J2 [(0,l0),(1,l1),(2,l2)]) (ac 0 l0_ok (ac 2 l2_ok QX.nil))
end M11
