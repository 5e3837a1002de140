/-
  What the proof stands on.
-/
import Derived.Test.YtddaobhpffpmoaaSR3QGu
import Derived.Test.YtddaobhpffpmoaaSR3QGj
import Derived.Test.YtddaobhpffpmoaaSR3QGs
set_option linter.all false
noncomputable section
namespace Go.Proofs.Ytddaobhpffpmoaa
open Go.Abs
set_option maxRecDepth 100000
end Go.Proofs.Ytddaobhpffpmoaa
namespace Go.Proofs.Ytddaobhpffpmoaa
open Go.Abs
set_option maxRecDepth 100000
namespace M14
structure gX where
 n:Int
 t:Int
 ph:List (Int)
 c:Int
 sa:Int
 sb:Int
def g:Sg gX where
 vs:=[.agg [.it .u8,.it .u64,.arr (.int .u64),.it .u8],.agg [.it .u64,.it .u64]]
 h:=[]
 to:=fun a b=>⟨a.1.1,a.1.2.1,a.1.2.2.1,a.1.2.2.2.1,a.2.1.1,a.2.1.2.1⟩
 fa:=fun x=>((x.n,(x.t,(x.ph,(x.c,())))),((x.sa,(x.sb,())),()))
 fh:=fun x=>()
abbrev fY:=Bool
def f:Ft fY where
 ord:=none
 sh:=.c (.bo)
 h:=[]
 to:=fun a b=>(a)
 fv:=fun y=>y
 fh:=fun y=>()
def cl:List (FuncId×Con):=[(59,M59.con),(60,M60.con),(61,M61.con),(65,M65.con),(66,M66.con),(29,M29.con),(56,M56.con),(67,M67.con),(37,M37.con)]
theorem cl_ok:allCon Try.prog cl:=⟨M59.con_ok,M60.con_ok,M61.con_ok,M65.con_ok,M66.con_ok,M29.con_ok,M56.con_ok,M67.con_ok,M37.con_ok,trivial⟩
def E2:Env:=⟨ty,cfOf cl,fun _=>none,none⟩
structure p1X where
 a:Int
 l:List (List (Int))
 o:List (List (Int))
 s:List (List (Int))
 j:Int
 c:Int
 dn:Int
 dt:Int
 dph:List (Int)
 dc:Int
 vn:Int
 vw:List (Int)
def p1:Pt p1X where
 own:=[]
 t:=⟨[(5,.c (.ptr 2 0)),(6,.c (.it .u64)),(8,.c (.arr (.sl (.int .u8)))),(10,.c (.arr (.sl (.int .u8)))),(12,.c (.arr (.sl (.int .u8)))),(16,.c (.ptr 4 0)),(18,.c (.it .i64)),(19,.c (.it .i64))],[.st [.junk,.junk,.junk,.junk] 1 0,.st [.junk,.junk] 1 0,.st [.it .i64,.it .u64,.arr (.int .u64),.it .i64] 1 0,.st [.junk,.junk] 1 0,.st [.it .i64,.arr (.int .u64)] 1 0]⟩
 to:=fun v=>⟨v.1.2.1,v.1.2.2.1,v.1.2.2.2.1,v.1.2.2.2.2.1,v.1.2.2.2.2.2.2.1,v.1.2.2.2.2.2.2.2.1,v.2.2.2.1.1,v.2.2.2.1.2.1,v.2.2.2.1.2.2.1,v.2.2.2.1.2.2.2.1,v.2.2.2.2.2.1.1,v.2.2.2.2.2.1.2.1⟩
 fr:=fun x=>(((),(x.a,(x.l,(x.o,(x.s,((),(x.j,(x.c,())))))))),(((),((),((),((),())))),(((),((),())),((x.dn,(x.dt,(x.dph,(x.dc,())))),(((),((),())),((x.vn,(x.vw,())),()))))))
structure q1X where
 a:Int
 l:List (List (Int))
 o:List (List (Int))
 s:List (List (Int))
 j:Int
 dn:Int
 dt:Int
 dph:List (Int)
 dc:Int
 vn:Int
 vw:List (Int)
def q1:Pt q1X where
 own:=[]
 t:=⟨[(5,.c (.ptr 2 0)),(6,.c (.it .u64)),(8,.c (.arr (.sl (.int .u8)))),(10,.c (.arr (.sl (.int .u8)))),(12,.c (.arr (.sl (.int .u8)))),(16,.c (.ptr 4 0)),(18,.c (.it .i64))],[.st [.junk,.junk,.junk,.junk] 1 0,.st [.junk,.junk] 1 0,.st [.it .i64,.it .u64,.arr (.int .u64),.it .i64] 1 0,.st [.junk,.junk] 1 0,.st [.it .i64,.arr (.int .u64)] 1 0]⟩
 to:=fun v=>⟨v.1.2.1,v.1.2.2.1,v.1.2.2.2.1,v.1.2.2.2.2.1,v.1.2.2.2.2.2.2.1,v.2.2.2.1.1,v.2.2.2.1.2.1,v.2.2.2.1.2.2.1,v.2.2.2.1.2.2.2.1,v.2.2.2.2.2.1.1,v.2.2.2.2.2.1.2.1⟩
 fr:=fun x=>(((),(x.a,(x.l,(x.o,(x.s,((),(x.j,()))))))),(((),((),((),((),())))),(((),((),())),((x.dn,(x.dt,(x.dph,(x.dc,())))),(((),((),())),((x.vn,(x.vw,())),()))))))
structure z1X where
 r:Bool
def z1:Pt z1X where
 own:=[]
 t:=⟨[(4,.c (.bo))],[]⟩
 to:=fun v=>⟨v.1.1⟩
 fr:=fun x=>((x.r,()),())
def s1(x:p1X):Option (p1X⊕(q1X⊕z1X)):=bif decide (x.c<x.dc) then bindO (M56.m ⟨x.dn,x.dt,x.a,IntKind.i64.wrap (IntKind.i64.wrap (x.dc - 1) - x.c)⟩) fun y=>bif inR x.j x.dph.length then bindO (M67.m ⟨IntKind.u64.wrap (↑(BitVec.ofInt 64 y&&&BitVec.ofInt 64 (x.dph[x.j.toNat]?.getD 0)).toNat:Int)⟩) fun y=>bif inR x.j x.l.length then bif inR x.c (List.length (x.l[x.j.toNat]?.getD [])) then bif inR x.j x.s.length||!!IntKind.u64.wrap ((x.l[x.j.toNat]?.getD [])[x.c.toNat]?.getD 0) !=y then bif inR x.c (List.length (x.s[x.j.toNat]?.getD []))||!!IntKind.u64.wrap ((x.l[x.j.toNat]?.getD [])[x.c.toNat]?.getD 0) !=y then bif inR x.j x.l.length||!!IntKind.u64.wrap ((x.l[x.j.toNat]?.getD [])[x.c.toNat]?.getD 0) !=y then bif inR x.c (List.length (x.l[x.j.toNat]?.getD []))||!!IntKind.u64.wrap ((x.l[x.j.toNat]?.getD [])[x.c.toNat]?.getD 0) !=y then bif inR x.j x.o.length||!!IntKind.u64.wrap ((x.l[x.j.toNat]?.getD [])[x.c.toNat]?.getD 0) !=y then bif inR x.c (List.length (x.o[x.j.toNat]?.getD []))||!!IntKind.u64.wrap ((x.l[x.j.toNat]?.getD [])[x.c.toNat]?.getD 0) !=y then bindO (bif !bif IntKind.u64.wrap ((x.l[x.j.toNat]?.getD [])[x.c.toNat]?.getD 0) !=y then true else (x.s[x.j.toNat]?.getD [])[x.c.toNat]?.getD 0 !=IntKind.u8.wrap (↑(BitVec.ofInt 8 ((x.l[x.j.toNat]?.getD [])[x.c.toNat]?.getD 0)^^^BitVec.ofInt 8 ((x.o[x.j.toNat]?.getD [])[x.c.toNat]?.getD 0)).toNat:Int) then M37.m ⟨x.vn,x.vw,IntKind.i64.wrap (IntKind.i64.wrap (x.j*x.dc)+x.c)⟩ else some (Int.ofNat 0)) fun y_1=>bif bif bif IntKind.u64.wrap ((x.l[x.j.toNat]?.getD [])[x.c.toNat]?.getD 0) !=y then true else (x.s[x.j.toNat]?.getD [])[x.c.toNat]?.getD 0 !=IntKind.u8.wrap (↑(BitVec.ofInt 8 ((x.l[x.j.toNat]?.getD [])[x.c.toNat]?.getD 0)^^^BitVec.ofInt 8 ((x.o[x.j.toNat]?.getD [])[x.c.toNat]?.getD 0)).toNat:Int) then true else IntKind.u64.wrap y_1 !=y then some (Sum.inr (Sum.inr ⟨false⟩)) else some (Sum.inl ⟨x.a,x.l,x.o,x.s,x.j,IntKind.i64.wrap (x.c+1),x.dn,x.dt,x.dph,x.dc,x.vn,x.vw⟩) else none else none else none else none else none else none else none else none else none else some (Sum.inr (Sum.inl ⟨x.a,x.l,x.o,x.s,x.j,x.dn,x.dt,x.dph,x.dc,x.vn,x.vw⟩))
theorem s1_eq(x:p1X):exec E2 240 (C14.bodyAt 1) 2 (p1.R x) (p1.H x) (roundK2 0 p1 (.exit 2) q1 .ret z1)=s1 x:=by kernel_rfl
def l1:LoopS:=mkLoop2 0 p1 (.exit 2) q1 .ret z1 s1
theorem tl1:topL (C14.bodyAt 1) 2=[]:=by kernel_rfl
theorem l1_ok  :LoopOkS Try.prog 240 none 0 (C14.bodyAt 1) l1:=mkLoop2_ok mixed (env_ok ty_ok cl_ok _) (by trivial) (by trivial) (fun _=>rfl) (fun _=>rfl) (fun _=>rfl) (tl1▸AllL.nil) s1_eq
def E1:Env:=⟨ty,cfOf cl,lpOf [(1,l1)],none⟩
structure p0X where
 a:Int
 l:List (List (Int))
 o:List (List (Int))
 s:List (List (Int))
 j:Int
 dn:Int
 dt:Int
 dph:List (Int)
 dc:Int
 vn:Int
 vw:List (Int)
def p0:Pt p0X where
 own:=[]
 t:=⟨[(5,.c (.ptr 2 0)),(6,.c (.it .u64)),(8,.c (.arr (.sl (.int .u8)))),(10,.c (.arr (.sl (.int .u8)))),(12,.c (.arr (.sl (.int .u8)))),(16,.c (.ptr 4 0)),(18,.c (.it .i64))],[.st [.junk,.junk,.junk,.junk] 1 0,.st [.junk,.junk] 1 0,.st [.it .i64,.it .u64,.arr (.int .u64),.it .i64] 1 0,.st [.junk,.junk] 1 0,.st [.it .i64,.arr (.int .u64)] 1 0]⟩
 to:=fun v=>⟨v.1.2.1,v.1.2.2.1,v.1.2.2.2.1,v.1.2.2.2.2.1,v.1.2.2.2.2.2.2.1,v.2.2.2.1.1,v.2.2.2.1.2.1,v.2.2.2.1.2.2.1,v.2.2.2.1.2.2.2.1,v.2.2.2.2.2.1.1,v.2.2.2.2.2.1.2.1⟩
 fr:=fun x=>(((),(x.a,(x.l,(x.o,(x.s,((),(x.j,()))))))),(((),((),((),((),())))),(((),((),())),((x.dn,(x.dt,(x.dph,(x.dc,())))),(((),((),())),((x.vn,(x.vw,())),()))))))
abbrev q0X:=Unit
def q0:Pt q0X where
 own:=[]
 t:=⟨[],[]⟩
 to:=fun v=>()
 fr:=fun x=>((),())
structure z0X where
 r:Bool
def z0:Pt z0X where
 own:=[]
 t:=⟨[(4,.c (.bo))],[]⟩
 to:=fun v=>⟨v.1.1⟩
 fr:=fun x=>((x.r,()),())
def s0(x:p0X):Option (p0X⊕(q0X⊕z0X)):=bif decide (x.j<(↑x.l.length:Int)) then bif inR x.j x.l.length then bif inR x.j x.o.length||!!(↑(List.length (x.l[x.j.toNat]?.getD [])):Int) !=x.dc then bif inR x.j x.s.length||!!bif (↑(List.length (x.l[x.j.toNat]?.getD [])):Int) !=x.dc then true else (↑(List.length (x.o[x.j.toNat]?.getD [])):Int) !=x.dc then bif bif bif (↑(List.length (x.l[x.j.toNat]?.getD [])):Int) !=x.dc then true else (↑(List.length (x.o[x.j.toNat]?.getD [])):Int) !=x.dc then true else (↑(List.length (x.s[x.j.toNat]?.getD [])):Int) !=x.dc then some (Sum.inr (Sum.inr ⟨false⟩)) else bindO (iter s1 ⟨x.a,x.l,x.o,x.s,x.j,0,x.dn,x.dt,x.dph,x.dc,x.vn,x.vw⟩) fun s=>sumC s (fun y=>some (Sum.inl ⟨y.a,y.l,y.o,y.s,IntKind.i64.wrap (y.j+1),y.dn,y.dt,y.dph,y.dc,y.vn,y.vw⟩)) fun z=>some (Sum.inr (Sum.inr ⟨z.r⟩)) else none else none else none else some (Sum.inr (Sum.inl PUnit.unit))
theorem s0_eq(x:p0X):exec E1 240 (C14.bodyAt 0) 1 (p0.R x) (p0.H x) (roundK2 0 p0 (.exit 0) q0 .ret z0)=s0 x:=by kernel_rfl
def l0:LoopS:=mkLoop2 0 p0 (.exit 0) q0 .ret z0 s0
theorem tl0:topL (C14.bodyAt 0) 1=[(1,C14.bodyAt 1)]:=by kernel_rfl
theorem l0_ok  :LoopOkS Try.prog 240 none 0 (C14.bodyAt 0) l0:=mkLoop2_ok mixed (env_ok ty_ok cl_ok _) (by trivial) (by trivial) (fun _=>rfl) (fun _=>rfl) (fun _=>rfl) (tl0▸(AllL.cons rfl l1_ok AllL.nil)) s0_eq
def E0:Env:=⟨ty,cfOf cl,lpOf [(0,l0),(1,l1)],none⟩
def m(x:gX):Option fY:=bif decide ((↑x.ph.length:Int)>8) then bindO (M59.m PUnit.unit) fun y=>some y else bindO (M60.m ⟨x.n,x.t,x.ph,x.c⟩) fun y=>bif decide (0≤y.1) then bif nz (IntKind.u64.wrap (1*2^min y.1.toNat 64)) then bif decide (0≤y.1) then bif nz (IntKind.u64.wrap (1*2^min y.1.toNat 64)) then bindO (M61.m ⟨y.1,y.2.1,y.2.2.1,y.2.2.2,x.sa.tmod (IntKind.u64.wrap (1*2^min y.1.toNat 64))⟩) fun y_1=>bindO (M61.m ⟨y.1,y.2.1,y.2.2.1,y.2.2.2,x.sb.tmod (IntKind.u64.wrap (1*2^min y.1.toNat 64))⟩) fun y_2=>bindO (M61.m ⟨y.1,y.2.1,y.2.2.1,y.2.2.2,IntKind.u64.wrap (↑(BitVec.ofInt 64 (x.sa.tmod (IntKind.u64.wrap (1*2^min y.1.toNat 64)))^^^BitVec.ofInt 64 (x.sb.tmod (IntKind.u64.wrap (1*2^min y.1.toNat 64)))).toNat:Int)⟩) fun y_3=>bindO (M65.m ⟨y.1,y.2.1,y.2.2.1,y.2.2.2⟩) fun y_4=>bindO (M66.m ⟨x.sa.tmod (IntKind.u64.wrap (1*2^min y.1.toNat 64)),y.1⟩) fun y_5=>bindO (M29.m ⟨y_4.1,y_4.2.1,y_5.1,y_5.2⟩) fun y_6=>bif bif bif bif bif bif bif bif bif bif y_1.2 !=0 then true else y_2.2 !=0 then true else y_3.2 !=0 then true else y_4.2.2 !=0 then true else y_6.2.2 !=0 then true else (↑y_1.1.length:Int) !=(↑y.2.2.1.length:Int) then true else (↑y_2.1.length:Int) !=(↑y_1.1.length:Int) then true else (↑y_3.1.length:Int) !=(↑y_1.1.length:Int) then true else y_6.1 !=IntKind.i64.wrap ((↑y_1.1.length:Int)*y.2.2.2) then true else y_4.1 !=y.1 then some false else bindO (iter s0 ⟨x.sa.tmod (IntKind.u64.wrap (1*2^min y.1.toNat 64)),y_1.1,y_2.1,y_3.1,0,y.1,y.2.1,y.2.2.1,y.2.2.2,y_6.1,y_6.2.1⟩) fun s=>sumC s (fun y=>bindO (M59.m PUnit.unit) fun y=>some y) fun z=>some z.r else none else none else none else none
theorem m_eq(x:gX):exec E0 240 C14 0 (initS 0 (g.A x)) (g.H x) (finish 0 ty [.tmp 4] f)=m x:=by kernel_rfl
theorem tl:topL C14 0=[(0,C14.bodyAt 0)]:=by kernel_rfl
theorem known:Known Try.prog 14 g f m:=
 mk_known mixed (env_ok ty_ok cl_ok _) s14 rfl rfl tl (AllL.cons rfl l0_ok AllL.nil) (fun _ _=>⟨rfl,rfl⟩) (fun _ _=>⟨rfl,rfl⟩) m_eq
end M14
end Go.Proofs.Ytddaobhpffpmoaa
