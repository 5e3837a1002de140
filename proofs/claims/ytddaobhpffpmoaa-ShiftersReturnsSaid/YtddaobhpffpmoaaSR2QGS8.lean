/-
  The functions of gf2s and shifters, run on symbolic values.
-/
import Derived.Test.YtddaobhpffpmoaaSR2QGu
set_option linter.all false
noncomputable section
namespace Go.Proofs.Ytddaobhpffpmoaa
open Go.Abs
set_option maxRecDepth 100000
namespace M11
structure gX where
 n:Int
 t:Int
 sa:Int
 sb:Int
 l:Int
def g:Sg gX where
 vs:=[.agg [.it .u8,.it .u64],.agg [.it .u64,.it .u64],.c (.it .u16)]
 h:=[]
 to:=fun a b=>⟨a.1.1,a.1.2.1,a.2.1.1,a.2.1.2.1,a.2.2.1⟩
 fa:=fun x=>((x.n,(x.t,())),((x.sa,(x.sb,())),(x.l,())))
 fh:=fun x=>()
abbrev fY:=Bool
def f:Ft fY where
 ord:=none
 sh:=.c (.bo)
 h:=[]
 to:=fun a b=>(a)
 fv:=fun y=>y
 fh:=fun y=>()
def cl:List (FuncId×Con):=[(54,M54.con),(55,M55.con),(56,M56.con),(57,M57.con),(58,M58.con),(59,M59.con)]
theorem cl_ok:allCon Try.prog cl:=⟨M54.con_ok,M55.con_ok,M56.con_ok,M57.con_ok,M58.con_ok,M59.con_ok,trivial⟩
def E1:Env:=⟨ty,cfOf cl,fun _=>none,none⟩
structure p0X where
 l:Int
 a:Int
 b:Int
 k:Int
 x:Int
 i:Int
 rn:Int
 rt:Int
def p0:Pt p0X where
 own:=[]
 t:=⟨[(2,.c (.it .u16)),(7,.c (.ptr 2 0)),(8,.c (.it .u64)),(9,.c (.it .u64)),(10,.c (.it .i64)),(12,.c (.it .u64)),(13,.c (.it .i64))],[.st [.junk,.junk] 1 0,.st [.junk,.junk] 1 0,.st [.it .i64,.it .u64] 1 0]⟩
 to:=fun v=>⟨v.1.1,v.1.2.2.1,v.1.2.2.2.1,v.1.2.2.2.2.1,v.1.2.2.2.2.2.1,v.1.2.2.2.2.2.2.1,v.2.2.2.1.1,v.2.2.2.1.2.1⟩
 fr:=fun x=>((x.l,((),(x.a,(x.b,(x.k,(x.x,(x.i,()))))))),(((),((),())),(((),((),())),((x.rn,(x.rt,())),()))))
structure q0X where
 l:Int
 a:Int
 b:Int
 k:Int
 rn:Int
 rt:Int
def q0:Pt q0X where
 own:=[]
 t:=⟨[(2,.c (.it .u16)),(7,.c (.ptr 2 0)),(8,.c (.it .u64)),(9,.c (.it .u64)),(10,.c (.it .i64))],[.st [.junk,.junk] 1 0,.st [.junk,.junk] 1 0,.st [.it .i64,.it .u64] 1 0]⟩
 to:=fun v=>⟨v.1.1,v.1.2.2.1,v.1.2.2.2.1,v.1.2.2.2.2.1,v.2.2.2.1.1,v.2.2.2.1.2.1⟩
 fr:=fun x=>((x.l,((),(x.a,(x.b,(x.k,()))))),(((),((),())),(((),((),())),((x.rn,(x.rt,())),()))))
structure z0X where
 r:Bool
def z0:Pt z0X where
 own:=[]
 t:=⟨[(6,.c (.bo))],[]⟩
 to:=fun v=>⟨v.1.1⟩
 fr:=fun x=>((x.r,()),())
def s0(x:p0X):Option (p0X⊕(q0X⊕z0X)):=bif decide (x.i<x.k) then bif x.x==x.a then some (Sum.inr (Sum.inr ⟨false⟩)) else bindO (M57.m ⟨x.rn,x.rt,x.x⟩) fun y=>some (Sum.inl ⟨x.l,x.a,x.b,x.k,y,IntKind.i64.wrap (x.i+1),x.rn,x.rt⟩) else some (Sum.inr (Sum.inl ⟨x.l,x.a,x.b,x.k,x.rn,x.rt⟩))
theorem s0_eq(x:p0X):exec E1 182 (C11.bodyAt 0) 1 (p0.R x) (p0.H x) (roundK2 0 p0 (.exit 0) q0 .ret z0)=s0 x:=by kernel_rfl
def l0:LoopS:=mkLoop2 0 p0 (.exit 0) q0 .ret z0 s0
theorem tl0:topL (C11.bodyAt 0) 1=[]:=by kernel_rfl
theorem l0_ok  :LoopOkS Try.prog 182 none 0 (C11.bodyAt 0) l0:=mkLoop2_ok mixed (env_ok ty_ok cl_ok _) (by trivial) (by trivial) (fun _=>rfl) (fun _=>rfl) (fun _=>rfl) (tl0▸AllL.nil) s0_eq
def E0:Env:=⟨ty,cfOf cl,lpOf [(0,l0)],none⟩
def m(x:gX):Option fY:=bindO (M54.m ⟨x.n.tmod 8,x.t⟩) fun y=>bif decide (0≤y.1) then bif nz (IntKind.u64.wrap (1*2^min y.1.toNat 64)) then bif decide (0≤y.1) then bif nz (IntKind.u64.wrap (1*2^min y.1.toNat 64)) then bif decide (0≤y.1) then bindO (M55.m ⟨y.1,y.2,x.sa.tmod (IntKind.u64.wrap (1*2^min y.1.toNat 64)),IntKind.i64.wrap (1*2^min y.1.toNat 64)⟩) fun y_1=>bif decide (0≤y.1)||!!bif y_1.2 !=0 then true else decide (y_1.1<1) then bindO (bif !bif bif y_1.2 !=0 then true else decide (y_1.1<1) then true else decide (y_1.1>IntKind.i64.wrap (1*2^min y.1.toNat 64)) then M56.m ⟨y.1,y.2,x.sa.tmod (IntKind.u64.wrap (1*2^min y.1.toNat 64)),y_1.1⟩ else some (Int.ofNat 0)) fun y_2=>bif bif bif bif y_1.2 !=0 then true else decide (y_1.1<1) then true else decide (y_1.1>IntKind.i64.wrap (1*2^min y.1.toNat 64)) then true else y_2 !=x.sa.tmod (IntKind.u64.wrap (1*2^min y.1.toNat 64)) then some false else bindO (M57.m ⟨y.1,y.2,x.sa.tmod (IntKind.u64.wrap (1*2^min y.1.toNat 64))⟩) fun y_3=>bindO (iter s0 ⟨x.l,x.sa.tmod (IntKind.u64.wrap (1*2^min y.1.toNat 64)),x.sb.tmod (IntKind.u64.wrap (1*2^min y.1.toNat 64)),y_1.1,y_3,1,y.1,y.2⟩) fun s=>sumC s (fun y=>bindO (M57.m ⟨y.rn,y.rt,y.a⟩) fun y_4=>bif decide (0≤y.rn) then bindO (M55.m ⟨y.rn,y.rt,y_4,IntKind.i64.wrap (1*2^min y.rn.toNat 64)⟩) fun y_5=>bif decide (0≤y.rn) then bif nz (IntKind.i64.wrap (2*2^min y.rn.toNat 64)) then bindO (M55.m ⟨y.rn,y.rt,y.a,(IntKind.i64.wrap y.l).tmod (IntKind.i64.wrap (2*2^min y.rn.toNat 64))⟩) fun y_6=>bif bif bif bif bif y_5.2 !=0 then true else y_5.1 !=y.k then true else !(y_6.2==0)==decide (y.k≤(IntKind.i64.wrap y.l).tmod (IntKind.i64.wrap (2*2^min y.rn.toNat 64))) then true else bif y_6.2==0 then y_6.1 !=y.k else false then true else bif y_6.2 !=0 then bif y_6.2 !=3 then true else y_6.1 !=0 else false then some false else bindO (M55.m ⟨y.rn,y.rt,0,1⟩) fun y_7=>bindO (M58.m ⟨y.rn,y.rt,y.a⟩) fun y_8=>bindO (M58.m ⟨y.rn,y.rt,y.b⟩) fun y_9=>bindO (bif bif bif y_7.2==0 then y_7.1==1 else false then (y_8.1==y_9.1)==(y.a==y.b) else false then M59.m PUnit.unit else some false) fun y_10=>some (bif bif bif y_7.2==0 then y_7.1==1 else false then (y_8.1==y_9.1)==(y.a==y.b) else false then y_10 else false) else none else none else none) fun z=>some z.r else none else none else none else none else none else none
theorem m_eq(x:gX):exec E0 182 C11 0 (initS 0 (g.A x)) (g.H x) (finish 0 ty [.tmp 6] f)=m x:=by kernel_rfl
theorem tl:topL C11 0=[(0,C11.bodyAt 0)]:=by kernel_rfl
theorem known:Known Try.prog 11 g f m:=
 mk_known mixed (env_ok ty_ok cl_ok _) s11 rfl rfl tl (AllL.cons rfl l0_ok AllL.nil) (fun _ _=>⟨rfl,rfl⟩) (fun _ _=>⟨rfl,rfl⟩) m_eq
end M11
end Go.Proofs.Ytddaobhpffpmoaa
