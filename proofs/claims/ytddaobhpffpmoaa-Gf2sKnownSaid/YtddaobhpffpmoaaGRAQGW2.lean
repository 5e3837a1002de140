/-
  The functions of gf2s and shifters, run on symbolic values.
-/
import Derived.Test.YtddaobhpffpmoaaGRAQGc
set_option linter.all false
noncomputable section
namespace Go.Proofs.Ytddaobhpffpmoaa
open Go.Abs
set_option maxRecDepth 100000
namespace M4
structure gX where
 mr:Int
 mc:Int
 ma:List (Int)
 ix:Int
def g:Sg gX where
 vs:=[.agg [.it .u8,.it .u8,.arr (.int .u8)],.c (.it .i64)]
 h:=[]
 to:=fun a b=>⟨a.1.1,a.1.2.1,a.1.2.2.1,a.2.1⟩
 fa:=fun x=>((x.mr,(x.mc,(x.ma,()))),(x.ix,()))
 fh:=fun x=>()
abbrev fY:=Bool
def f:Ft fY where
 ord:=none
 sh:=.c (.bo)
 h:=[]
 to:=fun a b=>(a)
 fv:=fun y=>y
 fh:=fun y=>()
def cl:List (FuncId×Con):=[(18,M18.con),(19,M19.con),(20,M20.con),(21,M21.con),(24,M24.con),(28,M28.con),(33,M33.con),(34,M34.con),(30,M30.con),(35,M35.con),(36,M36.con),(37,M37.con)]
theorem Q5:QG Try.prog cl:=⟨M18.Q1,M19.Q1,M20.Q1,M21.Q1,M24.Q1,M28.Q1,M33.Q1,M34.Q1,M30.Q1,M35.Q1,M36.Q1,M37.Q1,trivial⟩
def E2:Env:=⟨ty,QL cl,fun _=>none,none⟩
structure p1X where
 c:Int
 l:List (List (Int))
 bits:List (Int)
 k:Int
 mr:Int
 mc:Int
 ma:List (Int)
 an:Int
 aw:List (Int)
def p1:Pt p1X where
 own:=[]
 t:=⟨[(6,.c (.it .i64)),(7,.c (.arr (.sl (.int .u8)))),(8,.c (.ptr 1 0)),(18,.c (.arr (.int .u8))),(19,.c (.it .i64))],[.st [.it .u8,.it .u8,.arr (.int .u8)] 1 0,.st [.it .i64,.arr (.int .u64)] 1 0]⟩
 to:=fun v=>⟨v.1.1,v.1.2.1,v.1.2.2.2.1,v.1.2.2.2.2.1,v.2.1.1,v.2.1.2.1,v.2.1.2.2.1,v.2.2.1.1,v.2.2.1.2.1⟩
 fr:=fun x=>((x.c,(x.l,((),(x.bits,(x.k,()))))),((x.mr,(x.mc,(x.ma,()))),((x.an,(x.aw,())),())))
abbrev q1X:=Unit
def q1:Pt q1X where
 own:=[]
 t:=⟨[],[]⟩
 to:=fun v=>()
 fr:=fun x=>((),())
structure z1X where
 r:Bool
def z1:Pt z1X where
 own:=[]
 t:=⟨[(4,.c (.bo))],[]⟩
 to:=fun v=>⟨v.1.1⟩
 fr:=fun x=>((x.r,()),())
def s1(x:p1X):Option (p1X⊕(q1X⊕z1X)):=bif decide (x.k<x.c) then bif inR x.k x.bits.length then bif inR 0 x.l.length then bif inR x.k (List.length (x.l[0]?.getD [])) then Q0 (bif !x.bits[x.k.toNat]?.getD 0 !=(x.l[0]?.getD [])[x.k.toNat]?.getD 0 then M37.m ⟨x.an,x.aw,x.k⟩ else some (Int.ofNat 0)) fun y=>bif inR x.k x.bits.length||!!x.bits[x.k.toNat]?.getD 0 !=(x.l[0]?.getD [])[x.k.toNat]?.getD 0 then bif bif x.bits[x.k.toNat]?.getD 0 !=(x.l[0]?.getD [])[x.k.toNat]?.getD 0 then true else y !=x.bits[x.k.toNat]?.getD 0 then some (Sum.inr (Sum.inr ⟨false⟩)) else some (Sum.inl ⟨x.c,x.l,x.bits,IntKind.i64.wrap (x.k+1),x.mr,x.mc,x.ma,x.an,x.aw⟩) else none else none else none else none else some (Sum.inr (Sum.inl PUnit.unit))
theorem JZ(x:p1X):exec E2 183 (C4.Q2 1) 2 (p1.R x) (p1.H x) (J3 0 p1 (.exit 2) q1 .ret z1)=s1 x:=by kernel_rfl
def l1:QS:=J4 0 p1 (.exit 2) q1 .ret z1 s1
theorem tl1:QI (C4.Q2 1) 2=[]:=by kernel_rfl
theorem Jb  :QF Try.prog 183 none 0 (C4.Q2 1) l1:=Qc mixed (Q8 QC Q5 _) (by trivial) (by trivial) (fun _=>rfl) (fun _=>rfl) (fun _=>rfl) (tl1▸QB.nil) JZ
def E1:Env:=⟨ty,QL cl,JA [(1,l1)],none⟩
structure p0X where
 ix:Int
 c:Int
 l:List (List (Int))
 e:Int
 d:Int
 f:Int
 want_lo:Nat
 want_len:Nat
 n:Int
 k:Int
 mr:Int
 mc:Int
 ma:List (Int)
 an:Int
 aw:List (Int)
 bn:Int
 bw:List (Int)
 sn:Int
 sw:List (Int)
 want:List (Int)
def p0:Pt p0X where
 own:=[.reg 14 (.int .u8)]
 t:=⟨[(1,.c (.it .i64)),(6,.c (.it .i64)),(7,.c (.arr (.sl (.int .u8)))),(8,.c (.ptr 1 0)),(9,.c (.ptr 2 0)),(10,.c (.ptr 7 0)),(11,.c (.it .i64)),(12,.c (.it .u8)),(13,.c (.it .i64)),(14,.c (.sl 8 0 1)),(15,.c (.it .i64)),(16,.c (.it .i64))],[.st [.it .u8,.it .u8,.arr (.int .u8)] 1 0,.st [.it .i64,.arr (.int .u64)] 1 0,.st [.it .i64,.arr (.int .u64)] 1 0,.st [.junk] 1 0,.st [.junk] 1 0,.st [.junk] 1 0,.st [.junk] 1 0,.st [.it .i64,.arr (.int .u64)] 1 0,.arr (.int .u8) 0]⟩
 to:=fun v=>⟨v.1.1,v.1.2.1,v.1.2.2.1,v.1.2.2.2.2.2.2.1,v.1.2.2.2.2.2.2.2.1,v.1.2.2.2.2.2.2.2.2.1,v.1.2.2.2.2.2.2.2.2.2.1.1,v.1.2.2.2.2.2.2.2.2.2.1.2,v.1.2.2.2.2.2.2.2.2.2.2.1,v.1.2.2.2.2.2.2.2.2.2.2.2.1,v.2.1.1,v.2.1.2.1,v.2.1.2.2.1,v.2.2.1.1,v.2.2.1.2.1,v.2.2.2.1.1,v.2.2.2.1.2.1,v.2.2.2.2.2.2.2.2.1.1,v.2.2.2.2.2.2.2.2.1.2.1,v.2.2.2.2.2.2.2.2.2.1⟩
 fr:=fun x=>((x.ix,(x.c,(x.l,((),((),((),(x.e,(x.d,(x.f,((x.want_lo,x.want_len),(x.n,(x.k,())))))))))))),((x.mr,(x.mc,(x.ma,()))),((x.an,(x.aw,())),((x.bn,(x.bw,())),(((),()),(((),()),(((),()),(((),()),((x.sn,(x.sw,())),(x.want,()))))))))))
structure q0X where
 ix:Int
 c:Int
 l:List (List (Int))
 e:Int
 d:Int
 f:Int
 want:List (Int)
 n:Int
 mr:Int
 mc:Int
 ma:List (Int)
 an:Int
 aw:List (Int)
 bn:Int
 bw:List (Int)
 sn:Int
 sw:List (Int)
def q0:Pt q0X where
 own:=[]
 t:=⟨[(1,.c (.it .i64)),(6,.c (.it .i64)),(7,.c (.arr (.sl (.int .u8)))),(8,.c (.ptr 1 0)),(9,.c (.ptr 2 0)),(10,.c (.ptr 7 0)),(11,.c (.it .i64)),(12,.c (.it .u8)),(13,.c (.it .i64)),(14,.c (.arr (.int .u8))),(15,.c (.it .i64))],[.st [.it .u8,.it .u8,.arr (.int .u8)] 1 0,.st [.it .i64,.arr (.int .u64)] 1 0,.st [.it .i64,.arr (.int .u64)] 1 0,.st [.junk] 1 0,.st [.junk] 1 0,.st [.junk] 1 0,.st [.junk] 1 0,.st [.it .i64,.arr (.int .u64)] 1 0]⟩
 to:=fun v=>⟨v.1.1,v.1.2.1,v.1.2.2.1,v.1.2.2.2.2.2.2.1,v.1.2.2.2.2.2.2.2.1,v.1.2.2.2.2.2.2.2.2.1,v.1.2.2.2.2.2.2.2.2.2.1,v.1.2.2.2.2.2.2.2.2.2.2.1,v.2.1.1,v.2.1.2.1,v.2.1.2.2.1,v.2.2.1.1,v.2.2.1.2.1,v.2.2.2.1.1,v.2.2.2.1.2.1,v.2.2.2.2.2.2.2.2.1.1,v.2.2.2.2.2.2.2.2.1.2.1⟩
 fr:=fun x=>((x.ix,(x.c,(x.l,((),((),((),(x.e,(x.d,(x.f,(x.want,(x.n,()))))))))))),((x.mr,(x.mc,(x.ma,()))),((x.an,(x.aw,())),((x.bn,(x.bw,())),(((),()),(((),()),(((),()),(((),()),((x.sn,(x.sw,())),())))))))))
def s0(x:p0X):Option (p0X⊕q0X):=bif decide (x.k<x.c) then bif inR 0 x.l.length then bif inR x.k (List.length (x.l[0]?.getD [])) then bif inR 1 x.l.length then bif inR x.k (List.length (x.l[1]?.getD [])) then bif eqN x.want_lo 0&&eqN x.want.length x.want_len&&QP (x.want_len+1) 1 then bif inR 0 x.l.length then bif inR x.k (List.length (x.l[0]?.getD [])) then some (Sum.inl ⟨x.ix,x.c,x.l,x.e,x.d,x.f,0,x.want_len+1,IntKind.i64.wrap (x.n+IntKind.i64.wrap ((x.l[0]?.getD [])[x.k.toNat]?.getD 0)),IntKind.i64.wrap (x.k+1),x.mr,x.mc,x.ma,x.an,x.aw,x.bn,x.bw,x.sn,x.sw,x.want++[IntKind.u8.wrap (↑(BitVec.ofInt 8 ((x.l[0]?.getD [])[x.k.toNat]?.getD 0)^^^BitVec.ofInt 8 ((x.l[1]?.getD [])[x.k.toNat]?.getD 0)).toNat:Int)]⟩) else none else none else none else none else none else none else none else bif leB (x.want_lo+x.want_len) x.want.length&&true&&true then some (Sum.inr ⟨x.ix,x.c,x.l,x.e,x.d,x.f,List.take x.want_len (List.drop x.want_lo x.want),x.n,x.mr,x.mc,x.ma,x.an,x.aw,x.bn,x.bw,x.sn,x.sw⟩) else none
theorem QV(x:p0X):exec E1 183 (C4.Q2 0) 1 (p0.R x) (p0.H x) (Qq 0 p0 (.exit 0) q0)=s0 x:=by kernel_rfl
def l0:QS:=Qr 0 p0 (.exit 0) q0 s0
theorem tl0:QI (C4.Q2 0) 1=[]:=by kernel_rfl
theorem QW  :QF Try.prog 183 none 0 (C4.Q2 0) l0:=QQ mixed (Q8 QC Q5 _) (by trivial) (fun _=>rfl) (fun _=>rfl) (tl0▸QB.nil) QV
def E0:Env:=⟨ty,QL cl,JA [(0,l0),(1,l1)],none⟩
def m(x:gX):Option fY:=Q0 (M18.m ⟨[(x.mr,x.mc,x.ma)]⟩) fun y=>bif !y then Q0 (M19.m PUnit.unit) fun y=>some y else Q0 (M20.m ⟨x.mr,x.mc,x.ma⟩) fun y=>Q0 (M21.m ⟨x.mr,x.mc,x.ma,2,y.2⟩) fun y_1=>bif inR 0 (List.length y_1) then Q0 (M24.m ⟨y_1[0]?.getD []⟩) fun y_2=>bif inR 1 (List.length y_1) then Q0 (M24.m ⟨y_1[1]?.getD []⟩) fun y_3=>Q0 (M28.m ⟨y_2.1,y_2.2,y_3.1,y_3.2⟩) fun y_4=>Q0 (M33.m ⟨y_2.1,y_2.2,y_3.1,y_3.2⟩) fun y_5=>Q0 (iter s0 ⟨x.ix,y.2,y_1,y_4.2.2,y_5.1,y_5.2,0,0,0,0,x.mr,x.mc,x.ma,y_2.1,y_2.2,y_3.1,y_3.2,y_4.1,y_4.2.1,[]⟩) fun y=>bif bif inR 0 y.l.length&&(inR y.ix (List.length (y.l[0]?.getD []))&&true) then true else bif bif decide (y.ix≥0) then decide (y.ix<y.c) else false then false else true then Q0 (M34.m ⟨y.an,y.aw⟩) fun y_6=>bif inR 0 y.l.length||!!(↑(List.length y_6):Int) !=y.c then Q0 (bif !(↑(List.length y_6):Int) !=y.c then M30.m ⟨y.an,y.aw,y.l[0]?.getD []⟩ else some false) fun y_7=>bif inR 1 y.l.length||!!bif (↑(List.length y_6):Int) !=y.c then true else !y_7 then Q0 (bif !bif (↑(List.length y_6):Int) !=y.c then true else !y_7 then M30.m ⟨y.bn,y.bw,y.l[1]?.getD []⟩ else some false) fun y_8=>Q0 (bif !bif bif bif (↑(List.length y_6):Int) !=y.c then true else !y_7 then true else !y_8 then true else y.e !=0 then M30.m ⟨y.sn,y.sw,y.want⟩ else some false) fun y_9=>bif inR 0 y.l.length||!!bif bif bif bif bif (↑(List.length y_6):Int) !=y.c then true else !y_7 then true else !y_8 then true else y.e !=0 then true else !y_9 then true else y.f !=0 then bif inR 1 y.l.length||!!bif bif bif bif bif (↑(List.length y_6):Int) !=y.c then true else !y_7 then true else !y_8 then true else y.e !=0 then true else !y_9 then true else y.f !=0 then Q0 (bif !bif bif bif bif bif (↑(List.length y_6):Int) !=y.c then true else !y_7 then true else !y_8 then true else y.e !=0 then true else !y_9 then true else y.f !=0 then M35.m ⟨y.l[0]?.getD [],y.l[1]?.getD []⟩ else some (Int.ofNat 0)) fun y_10=>Q0 (bif !bif bif bif bif bif bif (↑(List.length y_6):Int) !=y.c then true else !y_7 then true else !y_8 then true else y.e !=0 then true else !y_9 then true else y.f !=0 then true else y.d !=y_10 then M36.m ⟨y.an,y.aw⟩ else some (Int.ofNat 0)) fun y_11=>Q0 (bif !bif bif bif bif bif bif bif (↑(List.length y_6):Int) !=y.c then true else !y_7 then true else !y_8 then true else y.e !=0 then true else !y_9 then true else y.f !=0 then true else y.d !=y_10 then true else y_11 !=y.n then M37.m ⟨y.an,y.aw,y.ix⟩ else some (Int.ofNat 0)) fun y_12=>bif bif bif bif bif bif bif bif bif (↑(List.length y_6):Int) !=y.c then true else !y_7 then true else !y_8 then true else y.e !=0 then true else !y_9 then true else y.f !=0 then true else y.d !=y_10 then true else y_11 !=y.n then true else y_12 !=bif bif decide (y.ix≥0) then decide (y.ix<y.c) else false then (y.l[0]?.getD [])[y.ix.toNat]?.getD 0 else 0 then some false else Q0 (iter s1 ⟨y.c,y.l,y_6,0,y.mr,y.mc,y.ma,y.an,y.aw⟩) fun s=>J6 s (fun y=>Q0 (M19.m PUnit.unit) fun y=>some y) fun z=>some z.r else none else none else none else none else none else none else none
theorem QJ(x:gX):exec E0 183 C4 0 (QN 0 (g.A x)) (g.H x) (finish 0 ty [.tmp 4] f)=m x:=by kernel_rfl
theorem tl:QI C4 0=[(0,C4.Q2 0),(1,C4.Q2 1)]:=by kernel_rfl
theorem known:QM Try.prog 4 g f m:=
 Q9 mixed (Q8 QC Q5 _) s4 rfl rfl tl (QB.cons rfl QW (QB.cons rfl Jb QB.nil)) (fun _ _=>⟨rfl,rfl⟩) (fun _ _=>⟨rfl,rfl⟩) QJ
def con:Con:=Qx g f m default
theorem Q1:QO Try.prog 4 con:=QE known (fun _=>rfl) rfl
end M4
end Go.Proofs.Ytddaobhpffpmoaa
