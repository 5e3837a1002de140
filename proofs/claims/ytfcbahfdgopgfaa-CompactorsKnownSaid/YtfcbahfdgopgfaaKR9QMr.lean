/-
  What the proof stands on.
-/
import Derived.Test.YtfcbahfdgopgfaaKR9QMq
import Derived.Test.YtfcbahfdgopgfaaKR9QMk
import Derived.Test.YtfcbahfdgopgfaaKR9QKc
set_option linter.all false
noncomputable section
namespace Go.Proofs.Ytfcbahfdgopgfaa
open Go.Abs
set_option maxRecDepth 100000
def c3:Con:=Zm F3.g F3.f F3.m default
theorem c3_ok:QU Try.prog 3 c3:=XT F3.known (fun _=>rfl) (fun _=>rfl)
def c4:Con:=Zm F4.g F4.f F4.m default
theorem c4_ok:QU Try.prog 4 c4:=XT F4.known (fun _=>rfl) (fun _=>rfl)
def c5:Con:=Zm F5.g F5.f F5.m default
theorem c5_ok:QU Try.prog 5 c5:=XT F5.known (fun _=>rfl) (fun _=>rfl)
def c6:Con:=Zm F6.g F6.f F6.m default
theorem c6_ok:QU Try.prog 6 c6:=XT F6.known (fun _=>rfl) (fun _=>rfl)
def c7:Con:=Zm F7.g F7.f F7.m default
theorem c7_ok:QU Try.prog 7 c7:=XT F7.known (fun _=>rfl) (fun _=>rfl)
namespace F8
abbrev gX:=Unit
def g:Sg gX where
 vs:=[]
 h:=[]
 to:=fun a b=>()
 fa:=fun x=>()
 fh:=fun x=>()
abbrev fY:=Bool
def f:Ft fY where
 ord:=none
 sh:=.c (.bo)
 h:=[]
 to:=fun a b=>(a)
 fv:=fun y=>y
 fh:=fun y=>()
def cl:List (FuncId×Con):=[(9,F9.con),(3,c3),(4,c4),(5,c5),(6,c6),(7,c7),(22,c22),(21,c21b),(21,c21a)]
theorem Q5:QM Try.prog cl:=⟨F9.Q4,c3_ok,c4_ok,c5_ok,c6_ok,c7_ok,c22_ok,c21b_ok,c21a_ok,trivial⟩
def E4:Env:=⟨ty,QQ cl,fun _=>none,none⟩
structure p3X where
 n:Int
 b_lo:Nat
 b_len:Nat
 i:Int
 oo:Int
 oc:List (Int)
 bb:List (Int)
def p3:Pt p3X where
 own:=[.reg 10 (.int .u8)]
 t:=⟨[(8,.c (.ptr 0 0)),(9,.c (.it .i64)),(10,.c (.sl 1 0 1)),(11,.c (.it .i64))],[.st [.it .u8,.arr (.int .u32)] 1 0,.arr (.int .u8) 0]⟩
 to:=fun v=>⟨v.1.2.1,v.1.2.2.1.1,v.1.2.2.1.2,v.1.2.2.2.1,v.2.1.1,v.2.1.2.1,v.2.2.1⟩
 fr:=fun x=>(((),(x.n,((x.b_lo,x.b_len),(x.i,())))),((x.oo,(x.oc,())),(x.bb,())))
structure q3X where
 n:Int
 b:List (Int)
 oo:Int
 oc:List (Int)
def q3:Pt q3X where
 own:=[]
 t:=⟨[(8,.c (.ptr 0 0)),(9,.c (.it .i64)),(10,.c (.arr (.int .u8)))],[.st [.it .u8,.arr (.int .u32)] 1 0]⟩
 to:=fun v=>⟨v.1.2.1,v.1.2.2.1,v.2.1.1,v.2.1.2.1⟩
 fr:=fun x=>(((),(x.n,(x.b,()))),((x.oo,(x.oc,())),()))
def s3(x:p3X):Option (p3X⊕q3X):=bif decide (x.i<6) then bif decide (0≤x.i) then bif eqN x.b_lo 0&&eqN x.bb.length x.b_len&&QP (x.b_len+1) 1 then some (Sum.inl ⟨x.n,0,x.b_len+1,IntKind.i64.wrap (x.i+1),x.oo,x.oc,x.bb++[IntKind.u8.wrap (IntKind.i64.wrap (1 - (x.n.fdiv (2^min x.i.toNat 64)).tmod 2))]⟩) else none else none else bif leB (x.b_lo+x.b_len) x.bb.length&&true&&true then some (Sum.inr ⟨x.n,List.take x.b_len (List.drop x.b_lo x.bb),x.oo,x.oc⟩) else none
theorem s3_eq(x:p3X):exec E4 257 (C8.Q3 3) 4 (p3.R x) (p3.H x) (Qt 0 p3 (.exit 6) q3)=s3 x:=by kernel_rfl
def l3:QN:=Qu 0 p3 (.exit 6) q3 s3
theorem tl3:QI (C8.Q3 3) 4=[]:=by kernel_rfl
theorem l3_ok  :QG Try.prog 257 none 0 (C8.Q3 3) l3:=QO mixed (Q6 QD Q5 _) (by trivial) (fun _=>rfl) (fun _=>rfl) (tl3▸QB.nil) s3_eq
def E3:Env:=⟨ty,QQ cl,JL [(3,l3)],none⟩
structure p2X where
 n:Int
 oo:Int
 oc:List (Int)
def p2:Pt p2X where
 own:=[]
 t:=⟨[(8,.c (.ptr 0 0)),(9,.c (.it .i64))],[.st [.it .u8,.arr (.int .u32)] 1 0]⟩
 to:=fun v=>⟨v.1.2.1,v.2.1.1,v.2.1.2.1⟩
 fr:=fun x=>(((),(x.n,())),((x.oo,(x.oc,())),()))
abbrev q2X:=Unit
def q2:Pt q2X where
 own:=[]
 t:=⟨[],[]⟩
 to:=fun v=>()
 fr:=fun x=>((),())
structure z2X where
 r:Bool
def z2:Pt z2X where
 own:=[]
 t:=⟨[(0,.c (.bo))],[]⟩
 to:=fun v=>⟨v.1.1⟩
 fr:=fun x=>((x.r,()),())
def s2(x:p2X):Option (p2X⊕(q2X⊕z2X)):=bif decide (x.n<64) then Q2 (iter s3 ⟨x.n,0,0,0,x.oo,x.oc,[]⟩) fun y=>Q2 (F5.m ⟨y.oo,y.oc,[],y.b,0⟩) fun y_1=>bif !y_1 then some (Sum.inr (Sum.inr ⟨false⟩)) else some (Sum.inl ⟨IntKind.i64.wrap (y.n+1),y.oo,y.oc⟩) else some (Sum.inr (Sum.inl PUnit.unit))
theorem WK(x:p2X):exec E3 257 (C8.Q3 2) 3 (p2.R x) (p2.H x) (JH 0 p2 (.exit 4) q2 .ret z2)=s2 x:=by kernel_rfl
def l2:QN:=JE 0 p2 (.exit 4) q2 .ret z2 s2
theorem tl2:QI (C8.Q3 2) 3=[(3,C8.Q3 3)]:=by kernel_rfl
theorem WY  :QG Try.prog 257 none 0 (C8.Q3 2) l2:=Qg mixed (Q6 QD Q5 _) (by trivial) (by trivial) (fun _=>rfl) (fun _=>rfl) (fun _=>rfl) (tl2▸(QB.cons rfl l3_ok QB.nil)) WK
def E2:Env:=⟨ty,QQ cl,JL [(2,l2),(3,l3)],none⟩
structure p1X where
 k:Int
 n:Int
 i:Int
 xo:Int
 xc_lo:Nat
 xc_len:Nat
 sg_lo:Nat
 sg_len:Nat
 sb_lo:Nat
 sb_len:Nat
 sm:Int
 l0_lo:Nat
 l0_len:Nat
 l1_lo:Nat
 l1_len:Nat
 ro:Int
 rc_lo:Nat
 rc_len:Nat
 rch:Int
 xa:List (Int)
 ra:List (Int)
 ga:List (Int)
 ba:List (Int)
 la:List (Int)
 lb:List (Int)
def p1:Pt p1X where
 own:=[.cell 0 1 (.int .u32),.cell 3 1 (.int .u64),.cell 1 0 (.int .u8),.cell 1 1 (.int .u8),.cell 2 0 (.int .u64),.cell 2 1 (.int .u64)]
 t:=⟨[(1,.c (.it .u32)),(2,.c (.it .i64)),(3,.c (.ptr 0 0)),(4,.c (.ptr 1 0)),(5,.c (.ptr 2 0)),(6,.c (.ptr 3 0)),(7,.c (.it .i64))],[.st [.it .u8,.sl 4 0 1] 1 0,.st [.sl 6 0 1,.sl 7 0 1,.it .u64] 1 0,.st [.sl 8 0 1,.sl 9 0 1] 1 0,.st [.it .i64,.sl 5 0 1,.it .i64,.nils] 1 0,.arr (.int .u32) 0,.arr (.int .u64) 0,.arr (.int .u8) 0,.arr (.int .u8) 0,.arr (.int .u64) 0,.arr (.int .u64) 0]⟩
 to:=fun v=>⟨v.1.1,v.1.2.1,v.1.2.2.2.2.2.2.1,v.2.1.1,v.2.1.2.1.1,v.2.1.2.1.2,v.2.2.1.1.1,v.2.2.1.1.2,v.2.2.1.2.1.1,v.2.2.1.2.1.2,v.2.2.1.2.2.1,v.2.2.2.1.1.1,v.2.2.2.1.1.2,v.2.2.2.1.2.1.1,v.2.2.2.1.2.1.2,v.2.2.2.2.1.1,v.2.2.2.2.1.2.1.1,v.2.2.2.2.1.2.1.2,v.2.2.2.2.1.2.2.1,v.2.2.2.2.2.1,v.2.2.2.2.2.2.1,v.2.2.2.2.2.2.2.1,v.2.2.2.2.2.2.2.2.1,v.2.2.2.2.2.2.2.2.2.1,v.2.2.2.2.2.2.2.2.2.2.1⟩
 fr:=fun x=>((x.k,(x.n,((),((),((),((),(x.i,()))))))),((x.xo,((x.xc_lo,x.xc_len),())),(((x.sg_lo,x.sg_len),((x.sb_lo,x.sb_len),(x.sm,()))),(((x.l0_lo,x.l0_len),((x.l1_lo,x.l1_len),())),((x.ro,((x.rc_lo,x.rc_len),(x.rch,((),())))),(x.xa,(x.ra,(x.ga,(x.ba,(x.la,(x.lb,())))))))))))
structure q1X where
 k:Int
 n:Int
 xo:Int
 xc_lo:Nat
 xc_len:Nat
 sg_lo:Nat
 sg_len:Nat
 sb_lo:Nat
 sb_len:Nat
 sm:Int
 l0_lo:Nat
 l0_len:Nat
 l1_lo:Nat
 l1_len:Nat
 ro:Int
 rc_lo:Nat
 rc_len:Nat
 rch:Int
 xa:List (Int)
 ra:List (Int)
 ga:List (Int)
 ba:List (Int)
 la:List (Int)
 lb:List (Int)
def q1:Pt q1X where
 own:=[]
 t:=⟨[(1,.c (.it .u32)),(2,.c (.it .i64)),(3,.c (.ptr 0 0)),(4,.c (.ptr 1 0)),(5,.c (.ptr 2 0)),(6,.c (.ptr 3 0))],[.st [.it .u8,.sl 4 0 1] 1 0,.st [.sl 6 0 1,.sl 7 0 1,.it .u64] 1 0,.st [.sl 8 0 1,.sl 9 0 1] 1 0,.st [.it .i64,.sl 5 0 1,.it .i64,.nils] 1 0,.arr (.int .u32) 0,.arr (.int .u64) 0,.arr (.int .u8) 0,.arr (.int .u8) 0,.arr (.int .u64) 0,.arr (.int .u64) 0]⟩
 to:=fun v=>⟨v.1.1,v.1.2.1,v.2.1.1,v.2.1.2.1.1,v.2.1.2.1.2,v.2.2.1.1.1,v.2.2.1.1.2,v.2.2.1.2.1.1,v.2.2.1.2.1.2,v.2.2.1.2.2.1,v.2.2.2.1.1.1,v.2.2.2.1.1.2,v.2.2.2.1.2.1.1,v.2.2.2.1.2.1.2,v.2.2.2.2.1.1,v.2.2.2.2.1.2.1.1,v.2.2.2.2.1.2.1.2,v.2.2.2.2.1.2.2.1,v.2.2.2.2.2.1,v.2.2.2.2.2.2.1,v.2.2.2.2.2.2.2.1,v.2.2.2.2.2.2.2.2.1,v.2.2.2.2.2.2.2.2.2.1,v.2.2.2.2.2.2.2.2.2.2.1⟩
 fr:=fun x=>((x.k,(x.n,((),((),((),((),())))))),((x.xo,((x.xc_lo,x.xc_len),())),(((x.sg_lo,x.sg_len),((x.sb_lo,x.sb_len),(x.sm,()))),(((x.l0_lo,x.l0_len),((x.l1_lo,x.l1_len),())),((x.ro,((x.rc_lo,x.rc_len),(x.rch,((),())))),(x.xa,(x.ra,(x.ga,(x.ba,(x.la,(x.lb,())))))))))))
def s1(x:p1X):Option (p1X⊕q1X):=bif decide (x.i<12) then bif decide (x.i<x.n.tmod 12) then bif eqN x.xc_lo 0&&eqN x.xa.length x.xc_len&&QP (x.xc_len+1) 4 then bif eqN x.rc_lo 0&&eqN x.ra.length x.rc_len&&QP (x.rc_len+1) 8 then bif eqN x.sg_lo 0&&eqN x.ga.length x.sg_len&&QP (x.sg_len+1) 1 then bif eqN x.sb_lo 0&&eqN x.ba.length x.sb_len&&QP (x.sb_len+1) 1 then bif eqN x.l0_lo 0&&eqN x.la.length x.l0_len&&QP (x.l0_len+1) 8 then bif eqN x.l1_lo 0&&eqN x.lb.length x.l1_len&&QP (x.l1_len+1) 8 then some (Sum.inl ⟨(IntKind.u32.wrap (IntKind.u32.wrap (IntKind.u32.wrap (x.k*31)+IntKind.u32.wrap (IntKind.i64.wrap (7*x.i)))+11)).tmod 1000003,x.n,IntKind.i64.wrap (x.i+1),x.xo,0,x.xc_len+1,0,x.sg_len+1,0,x.sb_len+1,x.sm,0,x.l0_len+1,0,x.l1_len+1,x.ro,0,x.rc_len+1,x.rch,x.xa++[x.k],x.ra++[IntKind.u64.wrap (x.k.tmod 8)],x.ga++[IntKind.u8.wrap (IntKind.u32.wrap (x.k.tdiv 3))],x.ba++[IntKind.u8.wrap (IntKind.u32.wrap (x.k.tdiv 7))],x.la++[IntKind.u64.wrap x.k],x.lb++[IntKind.u64.wrap (IntKind.u64.wrap x.k*IntKind.u64.wrap x.k)]⟩) else none else none else none else none else none else none else bif eqN x.sg_lo 0&&eqN x.ga.length x.sg_len&&QP (x.sg_len+1) 1 then bif eqN x.sb_lo 0&&eqN x.ba.length x.sb_len&&QP (x.sb_len+1) 1 then bif eqN x.l0_lo 0&&eqN x.la.length x.l0_len&&QP (x.l0_len+1) 8 then bif eqN x.l1_lo 0&&eqN x.lb.length x.l1_len&&QP (x.l1_len+1) 8 then some (Sum.inl ⟨(IntKind.u32.wrap (IntKind.u32.wrap (IntKind.u32.wrap (x.k*31)+IntKind.u32.wrap (IntKind.i64.wrap (7*x.i)))+11)).tmod 1000003,x.n,IntKind.i64.wrap (x.i+1),x.xo,x.xc_lo,x.xc_len,0,x.sg_len+1,0,x.sb_len+1,x.sm,0,x.l0_len+1,0,x.l1_len+1,x.ro,x.rc_lo,x.rc_len,x.rch,x.xa,x.ra,x.ga++[IntKind.u8.wrap (IntKind.u32.wrap (x.k.tdiv 3))],x.ba++[IntKind.u8.wrap (IntKind.u32.wrap (x.k.tdiv 7))],x.la++[IntKind.u64.wrap x.k],x.lb++[IntKind.u64.wrap (IntKind.u64.wrap x.k*IntKind.u64.wrap x.k)]⟩) else none else none else none else none else some (Sum.inr ⟨x.k,x.n,x.xo,x.xc_lo,x.xc_len,x.sg_lo,x.sg_len,x.sb_lo,x.sb_len,x.sm,x.l0_lo,x.l0_len,x.l1_lo,x.l1_len,x.ro,x.rc_lo,x.rc_len,x.rch,x.xa,x.ra,x.ga,x.ba,x.la,x.lb⟩)
theorem Jz(x:p1X):exec E2 257 (C8.Q3 1) 2 (p1.R x) (p1.H x) (Qt 0 p1 (.exit 2) q1)=s1 x:=by kernel_rfl
def l1:QN:=Qu 0 p1 (.exit 2) q1 s1
theorem tl1:QI (C8.Q3 1) 2=[]:=by kernel_rfl
theorem X1  :QG Try.prog 257 none 0 (C8.Q3 1) l1:=QO mixed (Q6 QD Q5 _) (by trivial) (fun _=>rfl) (fun _=>rfl) (tl1▸QB.nil) Jz
def E1:Env:=⟨ty,QQ cl,JL [(1,l1),(2,l2),(3,l3)],none⟩
structure p0X where
 k:Int
 n:Int
def p0:Pt p0X where
 own:=[]
 t:=⟨[(1,.c (.it .u32)),(2,.c (.it .i64))],[]⟩
 to:=fun v=>⟨v.1.1,v.1.2.1⟩
 fr:=fun x=>((x.k,(x.n,())),())
abbrev q0X:=Unit
def q0:Pt q0X where
 own:=[]
 t:=⟨[],[]⟩
 to:=fun v=>()
 fr:=fun x=>((),())
structure z0X where
 r:Bool
def z0:Pt z0X where
 own:=[]
 t:=⟨[(0,.c (.bo))],[]⟩
 to:=fun v=>⟨v.1.1⟩
 fr:=fun x=>((x.r,()),())
def s0(x:p0X):Option (p0X⊕(q0X⊕z0X)):=bif decide (x.n<24) then Q2 (iter s1 ⟨x.k,x.n,0,IntKind.u8.wrap x.n,0,0,0,0,0,0,IntKind.u64.wrap (↑(BitVec.ofInt 64 (IntKind.u64.wrap x.k)&&&BitVec.ofInt 64 (IntKind.u64.wrap (IntKind.u32.wrap (x.k.tdiv 3)))).toNat:Int),0,0,0,0,0,0,0,0,[],[],[],[],[],[]⟩) fun y=>Q2 (bif leB (y.xc_lo+y.xc_len) y.xa.length&&true&&(leB (y.sg_lo+y.sg_len) y.ga.length&&(leB (y.sb_lo+y.sb_len) y.ba.length&&true)&&true) then F3.m ⟨y.xo,List.take y.xc_len (List.drop y.xc_lo y.xa),List.take y.sg_len (List.drop y.sg_lo y.ga),List.take y.sb_len (List.drop y.sb_lo y.ba),y.sm⟩ else none) fun y_1=>Q2 (bif !!y_1 then bif leB (y.xc_lo+y.xc_len) y.xa.length&&true&&(leB (y.sg_lo+y.sg_len) y.ga.length&&(leB (y.sb_lo+y.sb_len) y.ba.length&&true)&&true) then F4.m ⟨y.xo,List.take y.xc_len (List.drop y.xc_lo y.xa),List.take y.sg_len (List.drop y.sg_lo y.ga),List.take y.sb_len (List.drop y.sb_lo y.ba),y.sm,IntKind.u8.wrap y.k⟩ else none else some false) fun y_2=>Q2 (bif !bif !y_1 then true else !y_2 then bif leB (y.xc_lo+y.xc_len) y.xa.length&&true&&(leB (y.sg_lo+y.sg_len) y.ga.length&&(leB (y.sb_lo+y.sb_len) y.ba.length&&true)&&true) then F5.m ⟨y.xo,List.take y.xc_len (List.drop y.xc_lo y.xa),List.take y.sg_len (List.drop y.sg_lo y.ga),List.take y.sb_len (List.drop y.sb_lo y.ba),y.sm⟩ else none else some false) fun y_3=>Q2 (bif !bif bif !y_1 then true else !y_2 then true else !y_3 then bif leB (y.xc_lo+y.xc_len) y.xa.length&&true&&true then F6.m ⟨y.xo,List.take y.xc_len (List.drop y.xc_lo y.xa),y.k,IntKind.u8.wrap y.n⟩ else none else some false) fun y_4=>Q2 (bif !bif bif bif !y_1 then true else !y_2 then true else !y_3 then true else !y_4 then bif leB (y.l0_lo+y.l0_len) y.la.length&&(leB (y.l1_lo+y.l1_len) y.lb.length&&true)&&true then F7.m ⟨IntKind.u8.wrap y.n,IntKind.u64.wrap y.k,List.take y.l0_len (List.drop y.l0_lo y.la),List.take y.l1_len (List.drop y.l1_lo y.lb),IntKind.u8.wrap y.n⟩ else none else some false) fun y_5=>bif decide (0≤y.n.tmod 4)&&decide (y.n.tmod 4≤(↑3:Int))&&true||!!bif bif bif bif !y_1 then true else !y_2 then true else !y_3 then true else !y_4 then true else !y_5 then bif decide (0≤y.n.tmod 3)&&decide (y.n.tmod 3≤(↑3:Int))&&true||!!bif bif bif bif !y_1 then true else !y_2 then true else !y_3 then true else !y_4 then true else !y_5 then Q2 (bif !bif bif bif bif !y_1 then true else !y_2 then true else !y_3 then true else !y_4 then true else !y_5 then bif leB (y.rc_lo+y.rc_len) y.ra.length&&true&&true then m22 ⟨IntKind.i64.wrap (y.n - 2),List.take y.rc_len (List.drop y.rc_lo y.ra),IntKind.i64.wrap (y.n.tmod 5 - 1),[y.n.tmod 3,y.n.tmod 5],List.take ((y.n.tmod 4).toNat - 0) (List.drop 0 [0,1,2]),List.take ((y.n.tmod 3).toNat - 0) (List.drop 0 [2,1,0]),IntKind.u64.wrap (y.n.tmod 6)⟩ else none else some false) fun y_6=>bif bif bif bif bif bif !y_1 then true else !y_2 then true else !y_3 then true else !y_4 then true else !y_5 then true else !y_6 then some (Sum.inr (Sum.inr ⟨false⟩)) else some (Sum.inl ⟨y.k,IntKind.i64.wrap (y.n+1)⟩) else none else none else some (Sum.inr (Sum.inl PUnit.unit))
theorem Qe(x:p0X):exec E1 257 (C8.Q3 0) 1 (p0.R x) (p0.H x) (JH 0 p0 (.exit 0) q0 .ret z0)=s0 x:=by kernel_rfl
def l0:QN:=JE 0 p0 (.exit 0) q0 .ret z0 s0
theorem tl0:QI (C8.Q3 0) 1=[(1,C8.Q3 1)]:=by kernel_rfl
theorem Qf  :QG Try.prog 257 none 0 (C8.Q3 0) l0:=Qg mixed (Q6 QD Q5 _) (by trivial) (by trivial) (fun _=>rfl) (fun _=>rfl) (fun _=>rfl) (tl0▸(QB.cons rfl X1 QB.nil)) Qe
def E0:Env:=⟨ty,QQ cl,JL [(0,l0),(1,l1),(2,l2),(3,l3)],none⟩
def m(x:gX):Option fY:=Q2 (iter s0 ⟨1,0⟩) fun s=>JK s (fun y=>Q2 (iter s2 ⟨0,5,[1,2,7,14,28,31]⟩) fun s=>JK s (fun y=>Q2 (some PUnit.unit) fun y=>some true) fun z=>some z.r) fun z=>some z.r
theorem QT(x:gX):exec E0 257 C8 0 (QX 0 (g.A x)) (g.H x) (finish 0 ty [.tmp 0] f)=m x:=by kernel_rfl
theorem tl:QI C8 0=[(0,C8.Q3 0),(2,C8.Q3 2)]:=by kernel_rfl
theorem known:QS Try.prog 8 g f m:=
 QC mixed (Q6 QD Q5 _) s8 rfl rfl tl (QB.cons rfl Qf (QB.cons rfl WY QB.nil)) (fun _ _=>⟨rfl,rfl⟩) (fun _ _=>⟨rfl,rfl⟩) QT
end F8
end Go.Proofs.Ytfcbahfdgopgfaa
namespace Go.Proofs.Ytfcbahfdgopgfaa
open Go.Abs
namespace Pl
theorem wr8(x:Int):0≤IntKind.u8.wrap x∧IntKind.u8.wrap x≤255:=by simp[IntKind.wrap,IntKind.signed,IntKind.bits];omega
theorem wr32(x:Int):0≤IntKind.u32.wrap x∧IntKind.u32.wrap x<4294967296:=by simp[IntKind.wrap,IntKind.signed,IntKind.bits];omega
theorem wr64(x:Int):W (IntKind.u64.wrap x):=by unfold W;simp[IntKind.wrap,IntKind.signed,IntKind.bits];omega
theorem W6{P:Int→Prop}{l:List Int}(h0:P 0)(h:∀v∈l,P v)(i:Nat):P (at0 l i):=by
 unfold at0
 by_cases g:i<l.length
 ·rw[List.getElem?_eq_getElem g];exact h _ (List.getElem_mem g)
 ·rw[List.getElem?_eq_none (by omega)];exact h0
theorem YG{P:Int→Prop}{l:List Int}{x:Int}(h:∀v∈l,P v)(hx:P x):∀v∈l++[x],P v:=fun v hv=>by
 rcases List.mem_append.1 hv with hv|hv
 ·exact h v hv
 ·rw[List.mem_singleton.1 hv];exact hx
structure Rn(i:Nat)(k:Int)(xa ra ga ba la lb:List Int):Prop where
 k:0≤k∧k≤1000003
 lx:xa.length≤i
 lr:ra.length≤i
 lg:ga.length≤i
 lh:ba.length≤i
 l0:la.length=i
 l1:lb.length=i
 px:∀v∈xa,0≤v∧v<4294967296
 pr:∀v∈ra,0≤v
 pg:∀v∈ga,0≤v
 ph:∀v∈ba,0≤v
 p0:∀v∈la,W v
 p1:∀v∈lb,W v
theorem nextk(a:Int):0≤(IntKind.u32.wrap a).tmod 1000003∧(IntKind.u32.wrap a).tmod 1000003≤1000003:=by
 have h:=(wr32 a).1
 generalize IntKind.u32.wrap a=b at h
 rw[Int.tmod_eq_emod_of_nonneg h];omega
theorem YN{n k:Nat}(h:n≤100)(hk:k≤100):QP n k=true:=by
 have:n*k≤100*100:=Nat.mul_le_mul h hk
 simp[QP,leB];omega
theorem inner{k0 n:Int}{xo sm ro rch:Int}(hk:0≤k0∧k0≤1000003)(hn:0≤n):
  ∃k xa ra ga ba la lb,iter F8.s1 ⟨k0,n,0,xo,0,0,0,0,0,0,sm,0,0,0,0,ro,0,0,rch,[],[],[],[],[],[]⟩=some ⟨k,n,xo,0,xa.length,0,ga.length,0,ba.length,sm,0,la.length,0,lb.length,ro,0,ra.length,rch,xa,ra,ga,ba,la,lb⟩∧Rn 12 k xa ra ga ba la lb:=by
 obtain⟨y,h1,k,xa,ra,ga,ba,la,lb,rfl,h2⟩:=Qo (step:=F8.s1) (fun x=>∃(i:Nat) (k:Int) (xa ra ga ba la lb:List Int),x=⟨k,n,i,xo,0,xa.length,0,ga.length,0,ba.length,sm,0,la.length,0,lb.length,ro,0,ra.length,rch,xa,ra,ga,ba,la,lb⟩∧i≤12∧Rn i k xa ra ga ba la lb) (fun x=>12 - x.i.toNat)
  (fun y=>∃(k:Int) (xa ra ga ba la lb:List Int),y=⟨k,n,xo,0,xa.length,0,ga.length,0,ba.length,sm,0,la.length,0,lb.length,ro,0,ra.length,rch,xa,ra,ga,ba,la,lb⟩∧Rn 12 k xa ra ga ba la lb) (fun x hx=>by
   obtain⟨i,k,xa,ra,ga,ba,la,lb,rfl,hi,hr⟩:=hx
   unfold F8.s1
   have q1:=hr.lx;have q2:=hr.lr;have q3:=hr.lg;have q4:=hr.lh;have q5:=hr.l0;have q6:=hr.l1
   by_cases g:i<12
   ·have e1:((i:Int)<12):=by omega
    simp only[e1,decide_true,cond_true,eqN,beq_self_eq_true,Bool.true_and,Bool.and_self,YN (show xa.length+1≤100 by omega) (show 4≤100 by omega),YN (show ra.length+1≤100 by omega) (show 8≤100 by omega),YN (show ga.length+1≤100 by omega) (show 1≤100 by omega),YN (show ba.length+1≤100 by omega) (show 1≤100 by omega),YN (show la.length+1≤100 by omega) (show 8≤100 by omega),YN (show lb.length+1≤100 by omega) (show 8≤100 by omega),QE (show i<12 from g) (show 12≤1000000 by omega)]
    have ga':=YG hr.pg (wr8 (IntKind.u32.wrap (k.tdiv 3))).1
    have ba':=YG hr.ph (wr8 (IntKind.u32.wrap (k.tdiv 7))).1
    have la':=YG hr.p0 (wr64 k)
    have lb':=YG hr.p1 (wr64 (IntKind.u64.wrap k*IntKind.u64.wrap k))
    cases decide ((i:Int)<n.tmod 12) with
    |true=>
     refine⟨_,rfl,⟨i+1,(IntKind.u32.wrap (IntKind.u32.wrap (IntKind.u32.wrap (k*31)+IntKind.u32.wrap (IntKind.i64.wrap (7*(i:Int))))+11)).tmod 1000003,xa++[k],ra++[IntKind.u64.wrap (k.tmod 8)],ga++[IntKind.u8.wrap (IntKind.u32.wrap (k.tdiv 3))],ba++[IntKind.u8.wrap (IntKind.u32.wrap (k.tdiv 7))],la++[IntKind.u64.wrap k],lb++[IntKind.u64.wrap (IntKind.u64.wrap k*IntKind.u64.wrap k)],?_,by omega,⟨nextk _,by simp;omega,by simp;omega,by simp;omega,by simp;omega,by simp;omega,by simp;omega,YG hr.px (by have:=hr.k;omega),YG hr.pr (wr64 _).1,ga',ba',la',lb'⟩⟩,by simp only[Int.toNat_natCast];omega⟩
     simp only[List.length_append,List.length_cons,List.length_nil]
    |false=>
     refine⟨_,rfl,⟨i+1,(IntKind.u32.wrap (IntKind.u32.wrap (IntKind.u32.wrap (k*31)+IntKind.u32.wrap (IntKind.i64.wrap (7*(i:Int))))+11)).tmod 1000003,xa,ra,ga++[IntKind.u8.wrap (IntKind.u32.wrap (k.tdiv 3))],ba++[IntKind.u8.wrap (IntKind.u32.wrap (k.tdiv 7))],la++[IntKind.u64.wrap k],lb++[IntKind.u64.wrap (IntKind.u64.wrap k*IntKind.u64.wrap k)],?_,by omega,⟨nextk _,by omega,by omega,by simp;omega,by simp;omega,by simp;omega,by simp;omega,hr.px,hr.pr,ga',ba',la',lb'⟩⟩,by simp only[Int.toNat_natCast];omega⟩
     simp only[List.length_append,List.length_cons,List.length_nil]
   ·have e1:¬((i:Int)<12):=by omega
    have e2:i=12:=by omega
    subst e2
    simp only[e1,decide_false,cond_false]
    exact⟨_,rfl,_,_,_,_,_,_,_,rfl,hr⟩) ⟨k0,n,(0:Nat),xo,0,0,0,0,0,0,sm,0,0,0,0,ro,0,0,rch,[],[],[],[],[],[]⟩ ⟨0,k0,[],[],[],[],[],[],rfl,by omega,⟨hk,by simp,by simp,by simp,by simp,rfl,rfl,by simp,by simp,by simp,by simp,by simp,by simp⟩⟩
 exact⟨k,xa,ra,ga,ba,la,lb,h1,h2⟩
theorem round8{k:Int}{n:Nat}(hk:0≤k∧k≤1000003)(hn:n<24):∃k',F8.s0 ⟨k,n⟩=some (.inl ⟨k',((n+1:Nat):Int)⟩)∧0≤k'∧k'≤1000003:=by
 unfold F8.s0
 have e1:((n:Int)<24):=by omega
 obtain⟨k',xa,ra,ga,ba,la,lb,h1,h2⟩:=inner (k0:=k) (n:=(n:Int)) (xo:=IntKind.u8.wrap n) (sm:=IntKind.u64.wrap (↑(BitVec.ofInt 64 (IntKind.u64.wrap k)&&&BitVec.ofInt 64 (IntKind.u64.wrap (IntKind.u32.wrap (k.tdiv 3)))).toNat:Int)) (ro:=0) (rch:=0) hk (by omega)
 have lex:∀l:List Int,leB (0+l.length) l.length=true:=fun l=>by simp[leB]
 have hx:=fun i=>W6 (P:=fun v=>0≤v∧v<4294967296) (by decide) h2.px i
 have hg:=fun i=>W6 (P:=fun v=>0≤v) (by decide) h2.pg i
 have hb:=fun i=>W6 (P:=fun v=>0≤v) (by decide) h2.ph i
 have h0:=fun i=>W6 (P:=W) (by unfold W;decide) h2.p0 i
 have h3:=fun i=>W6 (P:=W) (by unfold W;decide) h2.p1 i
 have f3:=outputs (wr8 (n:Int)) hx hg hb (wr64 (↑(BitVec.ofInt 64 (IntKind.u64.wrap k)&&&BitVec.ofInt 64 (IntKind.u64.wrap (IntKind.u32.wrap (k.tdiv 3)))).toNat:Int))
 have f4:=keeps (wr8 (n:Int)) hx hg hb (wr64 (↑(BitVec.ofInt 64 (IntKind.u64.wrap k)&&&BitVec.ofInt 64 (IntKind.u64.wrap (IntKind.u32.wrap (k.tdiv 3)))).toNat:Int)) (wr8 k')
 have f5:=sees (bad:=ba) (mask:=IntKind.u64.wrap (↑(BitVec.ofInt 64 (IntKind.u64.wrap k)&&&BitVec.ofInt 64 (IntKind.u64.wrap (IntKind.u32.wrap (k.tdiv 3)))).toNat:Int)) (wr8 (n:Int)) hx hg
 have f6:=locates (set:=k') (wr8 (n:Int)) hx (by have:=h2.k;omega) (wr8 (n:Int))
 have f7:=signs7 (wr8 (n:Int)) (wr64 k') h0 h3 (wr8 (n:Int)) (by rw[h2.l0];decide) (by rw[h2.l1];decide)
 have t4:(n:Int).tmod 4=((n%4:Nat):Int):=rfl
 have t3:(n:Int).tmod 3=((n%3:Nat):Int):=rfl
 have g1:(0≤((n%4:Nat):Int)):=by omega
 have g2:(((n%4:Nat):Int)≤((3:Nat):Int)):=by omega
 have g3:(0≤((n%3:Nat):Int)):=by omega
 have g4:(((n%3:Nat):Int)≤((3:Nat):Int)):=by omega
 have f22:∀{o ch:Int} {set good bad:List Int},m22 ⟨o,ra,ch,set,good,bad,IntKind.u64.wrap ((n:Int).tmod 6)⟩=some true:=fun{o ch set good bad}=>by
  unfold m22
  have a1:(ra.all fun c=>decide (0≤c))=true:=List.all_eq_true.2 fun x hx=>decide_eq_true (h2.pr x hx)
  have a2:=(wr64 ((n:Int).tmod 6)).1
  simp only[a1,a2,decide_true,Bool.and_self,cond_true]
 simp only[e1,decide_true,cond_true,h1,Q2,lex,List.drop_zero,List.take_length,Bool.and_self,f3,f4,f5,f6,f7,Bool.not_true,Bool.not_false,cond_false,t4,t3,g1,g2,g3,g4,Bool.true_or,f22,QE (show n<24 from hn) (show 24≤1000000 by omega)]
 refine⟨k',?_,h2.k⟩
 have a1:(n:Int)%4≤3:=by omega
 have a2:(n:Int)%3≤3:=by omega
 simp[a1,a2]
theorem bytes8(n oo:Int)(oc:List Int):∃b,iter F8.s3 ⟨n,0,0,0,oo,oc,[]⟩=some ⟨n,b,oo,oc⟩:=by
 obtain⟨y,h1,b,rfl⟩:=Qo (step:=F8.s3) (fun x=>∃(i:Nat) (bb:List Int),x=⟨n,0,bb.length,i,oo,oc,bb⟩∧i≤6∧bb.length=i) (fun x=>6 - x.i.toNat) (fun y=>∃b,y=⟨n,b,oo,oc⟩) (fun x hx=>by
  obtain⟨i,bb,rfl,hi,hl⟩:=hx
  unfold F8.s3
  by_cases g:i<6
  ·have e1:((i:Int)<6):=by omega
   have e2:(0≤(i:Int)):=by omega
   simp only[e1,e2,decide_true,cond_true,eqN,beq_self_eq_true,Bool.true_and,Bool.and_self,YN (show bb.length+1≤100 by omega) (show 1≤100 by omega),QE (show i<6 from g) (show 6≤1000000 by omega)]
   exact⟨_,rfl,⟨i+1,bb++[IntKind.u8.wrap (IntKind.i64.wrap (1 - (n.fdiv (2^min ((i:Int)).toNat 64)).tmod 2))],by simp only[List.length_append,List.length_cons,List.length_nil,Nat.zero_add],by omega,by simp;omega⟩,by simp only[Int.toNat_natCast];omega⟩
  ·have e1:¬((i:Int)<6):=by omega
   have lex:leB (0+bb.length) bb.length=true:=by simp[leB]
   simp only[e1,decide_false,cond_false,lex,Bool.and_self,cond_true,List.drop_zero,List.take_length]
   exact⟨_,rfl,_,rfl⟩) ⟨n,0,0,(0:Nat),oo,oc,[]⟩ ⟨0,[],rfl,by omega,rfl⟩
 exact⟨b,h1⟩
theorem run8:F8.m ()=some true:=by
 have k0:=Qo (step:=F8.s0) (fun x=>∃(k:Int) (n:Nat),x=⟨k,n⟩∧n≤24∧0≤k∧k≤1000003) (fun x=>24 - x.n.toNat) (fun y=>y=.inl ()) (fun x hx=>by
  obtain⟨k,n,rfl,hn,hk⟩:=hx
  by_cases g:n<24
  ·obtain⟨k',h1,h2⟩:=round8 hk g
   exact⟨_,h1,⟨k',n+1,rfl,by omega,h2⟩,by simp only[Int.toNat_natCast];omega⟩
  ·unfold F8.s0
   have e1:¬((n:Int)<24):=by omega
   simp only[e1,decide_false,cond_false]
   exact⟨_,rfl,rfl⟩) ⟨1,(0:Nat)⟩ ⟨1,0,rfl,by omega,by omega,by omega⟩
 obtain⟨y,k0,rfl⟩:=k0
 have k0:iter F8.s0 ⟨1,0⟩=_:=k0
 have k2:=Qo (step:=F8.s2) (fun x=>∃(n:Nat),x=⟨n,5,[1,2,7,14,28,31]⟩∧n≤64) (fun x=>64 - x.n.toNat) (fun y=>y=.inl ()) (fun x hx=>by
  obtain⟨n,rfl,hn⟩:=hx
  unfold F8.s2
  by_cases g:n<64
  ·have e1:((n:Int)<64):=by omega
   obtain⟨b,hb⟩:=bytes8 (n:Int) 5 [1,2,7,14,28,31]
   have f5:=sees (o:=5) (cols:=[1,2,7,14,28,31]) (good:=[]) (bad:=b) (mask:=0) (by unfold B8;decide) (fun i=>W6 (P:=fun v=>0≤v∧v<4294967296) (by decide) (by decide) i) (fun i=>W6 (P:=fun v=>0≤v) (by decide) (by simp) i)
   simp only[e1,decide_true,cond_true,hb,Q2,f5,Bool.not_true,cond_false,QE (show n<64 from g) (show 64≤1000000 by omega)]
   exact⟨_,rfl,⟨n+1,rfl,by omega⟩,by simp only[Int.toNat_natCast];omega⟩
  ·have e1:¬((n:Int)<64):=by omega
   simp only[e1,decide_false,cond_false]
   exact⟨_,rfl,rfl⟩) ⟨(0:Nat),5,[1,2,7,14,28,31]⟩ ⟨0,rfl,by omega⟩
 obtain⟨y,k2,rfl⟩:=k2
 have k2:iter F8.s2 ⟨0,5,[1,2,7,14,28,31]⟩=_:=k2
 unfold F8.m
 simp only[k0,k2,Q2,JK]
end Pl
end Go.Proofs.Ytfcbahfdgopgfaa
