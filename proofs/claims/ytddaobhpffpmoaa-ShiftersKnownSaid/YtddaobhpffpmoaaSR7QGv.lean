/- A part of the proof. -/
import Derived.Test.YtddaobhpffpmoaaSR7QGu
import Derived.Test.YtddaobhpffpmoaaSR7QGj
import Derived.Test.YtddaobhpffpmoaaSR7QGs
set_option linter.all false
set_option maxRecDepth 100000
noncomputable section
namespace Go.Proofs.Ytddaobhpffpmoaa
open Go.Abs
namespace M16
structure gX where(n t sa sb ka kb:Int)
def g:Sg gX:=⟨[.agg [.it .u8,.it .u64],.agg [.it .u64,.it .u64],.agg [.it .u64,.it .u64]],[],λa b=>⟨a.1.1,a.1.2.1,a.2.1.1,a.2.1.2.1,a.2.2.1.1,a.2.2.1.2.1⟩,λx=>((x.n,(x.t,())),((x.sa,(x.sb,())),((x.ka,(x.kb,())),()))),λx=>()⟩
abbrev fY:=Bool
def f:Ft fY:=⟨none,.c (.bo),[],λa b=>(a),λy=>y,λy=>()⟩
def cl:List (FuncId×Con):=[(54,M54.con),(58,M58.con),(70,M70.con),(66,M66.con),(29,M29.con),(32,M32.con),(57,M57.con),(69,M69.con),(56,M56.con),(59,M59.con)]
theorem Q3:QF Try.prog cl:=⟨M54.con_ok,M58.con_ok,M70.con_ok,M66.con_ok,M29.con_ok,M32.con_ok,M57.con_ok,M69.con_ok,M56.con_ok,M59.con_ok,trivial⟩
def E0:Env:=⟨ty,QN cl,λ_=>none,none⟩
def m(x:gX):Option fY:=bindO (M54.m ⟨x.n,x.t⟩) λy=>bif decide (0<=y.1) then bif nz (IntKind.u64.wrap (1*2^min y.1.toNat 64)) then bif decide (0<=y.1) then bif nz (IntKind.u64.wrap (1*2^min y.1.toNat 64)) then bindO (M58.m ⟨y.1,y.2,x.sa.tmod (IntKind.u64.wrap (1*2^min y.1.toNat 64))⟩) λy_1=>bindO (M58.m ⟨y.1,y.2,x.sb.tmod (IntKind.u64.wrap (1*2^min y.1.toNat 64))⟩) λy_2=>bindO (M58.m ⟨y.1,y.2,IntKind.u64.wrap (↑(BitVec.ofInt 64 (x.sa.tmod (IntKind.u64.wrap (1*2^min y.1.toNat 64)))^^^BitVec.ofInt 64 (x.sb.tmod (IntKind.u64.wrap (1*2^min y.1.toNat 64)))).toNat:Int)⟩) λy_3=>bindO (M70.m ⟨y.1,y.2⟩) λy_4=>bindO (M66.m ⟨x.sa.tmod (IntKind.u64.wrap (1*2^min y.1.toNat 64)),y.1⟩) λy_5=>bindO (M29.m ⟨y_4.1,y_4.2.1,y_5.1,y_5.2⟩) λy_6=>bindO (bif !bif bif bif bif y_1.2 !=0 then true else y_2.2 !=0 then true else y_3.2 !=0 then true else y_4.2.2 !=0 then true else y_6.2.2 !=0 then M57.m ⟨y.1,y.2,x.sa.tmod (IntKind.u64.wrap (1*2^min y.1.toNat 64))⟩ else some (Int.ofNat 0)) λy_7=>bindO (bif !bif bif bif bif bif bif bif y_1.2 !=0 then true else y_2.2 !=0 then true else y_3.2 !=0 then true else y_4.2.2 !=0 then true else y_6.2.2 !=0 then true else y_1.1 !=y_7 then true else y_3.1 !=IntKind.u64.wrap (↑(BitVec.ofInt 64 y_1.1^^^BitVec.ofInt 64 y_2.1).toNat:Int) then true else (↑y_4.2.1.length:Int) !=y.1 then M32.m ⟨y_6.1,y_6.2.1⟩ else some []) λy_8=>bindO (bif !bif bif bif bif bif bif bif y_1.2 !=0 then true else y_2.2 !=0 then true else y_3.2 !=0 then true else y_4.2.2 !=0 then true else y_6.2.2 !=0 then true else y_1.1 !=y_7 then true else y_3.1 !=IntKind.u64.wrap (↑(BitVec.ofInt 64 y_1.1^^^BitVec.ofInt 64 y_2.1).toNat:Int) then true else (↑y_4.2.1.length:Int) !=y.1 then M66.m ⟨y_1.1,y.1⟩ else some (Int.ofNat 0,[])) λy_9=>bindO (bif !bif bif bif bif bif bif bif y_1.2 !=0 then true else y_2.2 !=0 then true else y_3.2 !=0 then true else y_4.2.2 !=0 then true else y_6.2.2 !=0 then true else y_1.1 !=y_7 then true else y_3.1 !=IntKind.u64.wrap (↑(BitVec.ofInt 64 y_1.1^^^BitVec.ofInt 64 y_2.1).toNat:Int) then true else (↑y_4.2.1.length:Int) !=y.1 then M32.m ⟨y_9.1,y_9.2⟩ else some []) λy_10=>bif bif bif bif bif bif bif bif bif y_1.2 !=0 then true else y_2.2 !=0 then true else y_3.2 !=0 then true else y_4.2.2 !=0 then true else y_6.2.2 !=0 then true else y_1.1 !=y_7 then true else y_3.1 !=IntKind.u64.wrap (↑(BitVec.ofInt 64 y_1.1^^^BitVec.ofInt 64 y_2.1).toNat:Int) then true else (↑y_4.2.1.length:Int) !=y.1 then true else !y_8==y_10 then some false else bindO (M69.m ⟨y.1,y.2,x.sa.tmod (IntKind.u64.wrap (1*2^min y.1.toNat 64)),IntKind.u64.wrap (IntKind.i64.wrap (x.ka.tmod 200))⟩) λy_11=>bindO (M69.m ⟨y.1,y.2,x.sa.tmod (IntKind.u64.wrap (1*2^min y.1.toNat 64)),IntKind.u64.wrap (x.ka.tdiv 2)⟩) λy_12=>bindO (M69.m ⟨y.1,y.2,y_12.1,IntKind.u64.wrap (x.kb.tdiv 2)⟩) λy_13=>bindO (M69.m ⟨y.1,y.2,x.sa.tmod (IntKind.u64.wrap (1*2^min y.1.toNat 64)),IntKind.u64.wrap (IntKind.u64.wrap (x.ka.tdiv 2)+IntKind.u64.wrap (x.kb.tdiv 2))⟩) λy_14=>bindO (bif bif bif bif y_11.2==0 then y_12.2==0 else false then y_13.2==0 else false then y_14.2==0 else false then M56.m ⟨y.1,y.2,x.sa.tmod (IntKind.u64.wrap (1*2^min y.1.toNat 64)),IntKind.i64.wrap (x.ka.tmod 200)⟩ else some (Int.ofNat 0)) λy=>bindO (bif bif bif bif bif bif y_11.2==0 then y_12.2==0 else false then y_13.2==0 else false then y_14.2==0 else false then y_11.1==y else false then y_13.1==y_14.1 else false then M59.m PUnit.unit else some false) λy_15=>some (bif bif bif bif bif bif y_11.2==0 then y_12.2==0 else false then y_13.2==0 else false then y_14.2==0 else false then y_11.1==y else false then y_13.1==y_14.1 else false then y_15 else false) else none else none else none else none
theorem QL(x:gX):exec E0 196 C16 0 (QP 0 (g.A x)) (g.H x) (finish 0 ty [.tmp 6] f)=m x:=by kernel_rfl
theorem tl:QI C16 0=[]:=by kernel_rfl
theorem known:QM Try.prog 16 g f m:=
 Q8 mixed (Q5 QB Q3 _) s16 rfl rfl tl QA.nil (λ_ _=>⟨rfl,rfl⟩) (λ_ _=>⟨rfl,rfl⟩) QL
end M16
namespace M11
structure gX where(n t sa sb l:Int)
def g:Sg gX:=⟨[.agg [.it .u8,.it .u64],.agg [.it .u64,.it .u64],.c (.it .u16)],[],λa b=>⟨a.1.1,a.1.2.1,a.2.1.1,a.2.1.2.1,a.2.2.1⟩,λx=>((x.n,(x.t,())),((x.sa,(x.sb,())),(x.l,()))),λx=>()⟩
abbrev fY:=Bool
def f:Ft fY:=⟨none,.c (.bo),[],λa b=>(a),λy=>y,λy=>()⟩
def cl:List (FuncId×Con):=[(54,M54.con),(55,M55.con),(56,M56.con),(57,M57.con),(58,M58.con),(59,M59.con)]
theorem Q3:QF Try.prog cl:=⟨M54.con_ok,M55.con_ok,M56.con_ok,M57.con_ok,M58.con_ok,M59.con_ok,trivial⟩
def E1:Env:=⟨ty,QN cl,λ_=>none,none⟩
structure p0X where(l a b k x i rn rt:Int)
def p0:Pt p0X where
 own:=[]
 t:=⟨[(2,.c (.it .u16)),(7,.c (.ptr 2 0)),(8,.c (.it .u64)),(9,.c (.it .u64)),(10,.c (.it .i64)),(12,.c (.it .u64)),(13,.c (.it .i64))],[.st [.junk,.junk] 1 0,.st [.junk,.junk] 1 0,.st [.it .i64,.it .u64] 1 0]⟩
 to:=λv=>⟨v.1.1,v.1.2.2.1,v.1.2.2.2.1,v.1.2.2.2.2.1,v.1.2.2.2.2.2.1,v.1.2.2.2.2.2.2.1,v.2.2.2.1.1,v.2.2.2.1.2.1⟩
 fr:=λx=>((x.l,((),(x.a,(x.b,(x.k,(x.x,(x.i,()))))))),(((),((),())),(((),((),())),((x.rn,(x.rt,())),()))))
structure q0X where(l a b k rn rt:Int)
def q0:Pt q0X where
 own:=[]
 t:=⟨[(2,.c (.it .u16)),(7,.c (.ptr 2 0)),(8,.c (.it .u64)),(9,.c (.it .u64)),(10,.c (.it .i64))],[.st [.junk,.junk] 1 0,.st [.junk,.junk] 1 0,.st [.it .i64,.it .u64] 1 0]⟩
 to:=λv=>⟨v.1.1,v.1.2.2.1,v.1.2.2.2.1,v.1.2.2.2.2.1,v.2.2.2.1.1,v.2.2.2.1.2.1⟩
 fr:=λx=>((x.l,((),(x.a,(x.b,(x.k,()))))),(((),((),())),(((),((),())),((x.rn,(x.rt,())),()))))
structure z0X where(r:Bool)
def z0:Pt z0X where
 own:=[]
 t:=⟨[(6,.c (.bo))],[]⟩
 to:=λv=>⟨v.1.1⟩
 fr:=λx=>((x.r,()),())
def s0(x:p0X):Option (p0X⊕(q0X⊕z0X)):=bif decide (x.i<x.k) then bif x.x==x.a then some (Sum.inr (Sum.inr ⟨false⟩)) else bindO (M57.m ⟨x.rn,x.rt,x.x⟩) λy=>some (Sum.inl ⟨x.l,x.a,x.b,x.k,y,IntKind.i64.wrap (x.i+1),x.rn,x.rt⟩) else some (Sum.inr (Sum.inl ⟨x.l,x.a,x.b,x.k,x.rn,x.rt⟩))
theorem QZ(x:p0X):exec E1 182 (C11.Q2 0) 1 (p0.R x) (p0.H x) (JF 0 p0 (.exit 0) q0 .ret z0)=s0 x:=by kernel_rfl
def l0:QU:=JG 0 p0 (.exit 0) q0 .ret z0 s0
theorem tl0:QI (C11.Q2 0) 1=[]:=by kernel_rfl
theorem Qa  :QH Try.prog 182 none 0 (C11.Q2 0) l0:=Qi mixed (Q5 QB Q3 _) (by trivial) (by trivial) (λ_=>rfl) (λ_=>rfl) (λ_=>rfl) (tl0▸QA.nil) QZ
def E0:Env:=⟨ty,QN cl,JH [(0,l0)],none⟩
def m(x:gX):Option fY:=bindO (M54.m ⟨x.n.tmod 8,x.t⟩) λy=>bif decide (0<=y.1) then bif nz (IntKind.u64.wrap (1*2^min y.1.toNat 64)) then bif decide (0<=y.1) then bif nz (IntKind.u64.wrap (1*2^min y.1.toNat 64)) then bif decide (0<=y.1) then bindO (M55.m ⟨y.1,y.2,x.sa.tmod (IntKind.u64.wrap (1*2^min y.1.toNat 64)),IntKind.i64.wrap (1*2^min y.1.toNat 64)⟩) λy_1=>bif decide (0<=y.1)||!!bif y_1.2 !=0 then true else decide (y_1.1<1) then bindO (bif !bif bif y_1.2 !=0 then true else decide (y_1.1<1) then true else decide (y_1.1>IntKind.i64.wrap (1*2^min y.1.toNat 64)) then M56.m ⟨y.1,y.2,x.sa.tmod (IntKind.u64.wrap (1*2^min y.1.toNat 64)),y_1.1⟩ else some (Int.ofNat 0)) λy_2=>bif bif bif bif y_1.2 !=0 then true else decide (y_1.1<1) then true else decide (y_1.1>IntKind.i64.wrap (1*2^min y.1.toNat 64)) then true else y_2 !=x.sa.tmod (IntKind.u64.wrap (1*2^min y.1.toNat 64)) then some false else bindO (M57.m ⟨y.1,y.2,x.sa.tmod (IntKind.u64.wrap (1*2^min y.1.toNat 64))⟩) λy_3=>bindO (iter s0 ⟨x.l,x.sa.tmod (IntKind.u64.wrap (1*2^min y.1.toNat 64)),x.sb.tmod (IntKind.u64.wrap (1*2^min y.1.toNat 64)),y_1.1,y_3,1,y.1,y.2⟩) λs=>sumC s (λy=>bindO (M57.m ⟨y.rn,y.rt,y.a⟩) λy_4=>bif decide (0<=y.rn) then bindO (M55.m ⟨y.rn,y.rt,y_4,IntKind.i64.wrap (1*2^min y.rn.toNat 64)⟩) λy_5=>bif decide (0<=y.rn) then bif nz (IntKind.i64.wrap (2*2^min y.rn.toNat 64)) then bindO (M55.m ⟨y.rn,y.rt,y.a,(IntKind.i64.wrap y.l).tmod (IntKind.i64.wrap (2*2^min y.rn.toNat 64))⟩) λy_6=>bif bif bif bif bif y_5.2 !=0 then true else y_5.1 !=y.k then true else !(y_6.2==0)==decide (y.k<=(IntKind.i64.wrap y.l).tmod (IntKind.i64.wrap (2*2^min y.rn.toNat 64))) then true else bif y_6.2==0 then y_6.1 !=y.k else false then true else bif y_6.2 !=0 then bif y_6.2 !=3 then true else y_6.1 !=0 else false then some false else bindO (M55.m ⟨y.rn,y.rt,0,1⟩) λy_7=>bindO (M58.m ⟨y.rn,y.rt,y.a⟩) λy_8=>bindO (M58.m ⟨y.rn,y.rt,y.b⟩) λy_9=>bindO (bif bif bif y_7.2==0 then y_7.1==1 else false then (y_8.1==y_9.1)==(y.a==y.b) else false then M59.m PUnit.unit else some false) λy_10=>some (bif bif bif y_7.2==0 then y_7.1==1 else false then (y_8.1==y_9.1)==(y.a==y.b) else false then y_10 else false) else none else none else none) λz=>some z.r else none else none else none else none else none else none
theorem QL(x:gX):exec E0 182 C11 0 (QP 0 (g.A x)) (g.H x) (finish 0 ty [.tmp 6] f)=m x:=by kernel_rfl
theorem tl:QI C11 0=[(0,C11.Q2 0)]:=by kernel_rfl
theorem known:QM Try.prog 11 g f m:=
 Q8 mixed (Q5 QB Q3 _) s11 rfl rfl tl (QA.cons rfl Qa QA.nil) (λ_ _=>⟨rfl,rfl⟩) (λ_ _=>⟨rfl,rfl⟩) QL
end M11
namespace M14
structure gX where(n t:Int)(ph:List (Int))(c sa sb:Int)
def g:Sg gX:=⟨[.agg [.it .u8,.it .u64,.arr (.int .u64),.it .u8],.agg [.it .u64,.it .u64]],[],λa b=>⟨a.1.1,a.1.2.1,a.1.2.2.1,a.1.2.2.2.1,a.2.1.1,a.2.1.2.1⟩,λx=>((x.n,(x.t,(x.ph,(x.c,())))),((x.sa,(x.sb,())),())),λx=>()⟩
abbrev fY:=Bool
def f:Ft fY:=⟨none,.c (.bo),[],λa b=>(a),λy=>y,λy=>()⟩
def cl:List (FuncId×Con):=[(59,M59.con),(60,M60.con),(61,M61.con),(65,M65.con),(66,M66.con),(29,M29.con),(56,M56.con),(67,M67.con),(37,M37.con)]
theorem Q3:QF Try.prog cl:=⟨M59.con_ok,M60.con_ok,M61.con_ok,M65.con_ok,M66.con_ok,M29.con_ok,M56.con_ok,M67.con_ok,M37.con_ok,trivial⟩
def E2:Env:=⟨ty,QN cl,λ_=>none,none⟩
structure p1X where(a:Int)(l o s:List (List (Int)))(j c dn dt:Int)(dph:List (Int))(dc vn:Int)(vw:List (Int))
def p1:Pt p1X where
 own:=[]
 t:=⟨[(5,.c (.ptr 2 0)),(6,.c (.it .u64)),(8,.c (.arr (.sl (.int .u8)))),(10,.c (.arr (.sl (.int .u8)))),(12,.c (.arr (.sl (.int .u8)))),(16,.c (.ptr 4 0)),(18,.c (.it .i64)),(19,.c (.it .i64))],[.st [.junk,.junk,.junk,.junk] 1 0,.st [.junk,.junk] 1 0,.st [.it .i64,.it .u64,.arr (.int .u64),.it .i64] 1 0,.st [.junk,.junk] 1 0,.st [.it .i64,.arr (.int .u64)] 1 0]⟩
 to:=λv=>⟨v.1.2.1,v.1.2.2.1,v.1.2.2.2.1,v.1.2.2.2.2.1,v.1.2.2.2.2.2.2.1,v.1.2.2.2.2.2.2.2.1,v.2.2.2.1.1,v.2.2.2.1.2.1,v.2.2.2.1.2.2.1,v.2.2.2.1.2.2.2.1,v.2.2.2.2.2.1.1,v.2.2.2.2.2.1.2.1⟩
 fr:=λx=>(((),(x.a,(x.l,(x.o,(x.s,((),(x.j,(x.c,())))))))),(((),((),((),((),())))),(((),((),())),((x.dn,(x.dt,(x.dph,(x.dc,())))),(((),((),())),((x.vn,(x.vw,())),()))))))
structure q1X where(a:Int)(l o s:List (List (Int)))(j dn dt:Int)(dph:List (Int))(dc vn:Int)(vw:List (Int))
def q1:Pt q1X where
 own:=[]
 t:=⟨[(5,.c (.ptr 2 0)),(6,.c (.it .u64)),(8,.c (.arr (.sl (.int .u8)))),(10,.c (.arr (.sl (.int .u8)))),(12,.c (.arr (.sl (.int .u8)))),(16,.c (.ptr 4 0)),(18,.c (.it .i64))],[.st [.junk,.junk,.junk,.junk] 1 0,.st [.junk,.junk] 1 0,.st [.it .i64,.it .u64,.arr (.int .u64),.it .i64] 1 0,.st [.junk,.junk] 1 0,.st [.it .i64,.arr (.int .u64)] 1 0]⟩
 to:=λv=>⟨v.1.2.1,v.1.2.2.1,v.1.2.2.2.1,v.1.2.2.2.2.1,v.1.2.2.2.2.2.2.1,v.2.2.2.1.1,v.2.2.2.1.2.1,v.2.2.2.1.2.2.1,v.2.2.2.1.2.2.2.1,v.2.2.2.2.2.1.1,v.2.2.2.2.2.1.2.1⟩
 fr:=λx=>(((),(x.a,(x.l,(x.o,(x.s,((),(x.j,()))))))),(((),((),((),((),())))),(((),((),())),((x.dn,(x.dt,(x.dph,(x.dc,())))),(((),((),())),((x.vn,(x.vw,())),()))))))
structure z1X where(r:Bool)
def z1:Pt z1X where
 own:=[]
 t:=⟨[(4,.c (.bo))],[]⟩
 to:=λv=>⟨v.1.1⟩
 fr:=λx=>((x.r,()),())
def s1(x:p1X):Option (p1X⊕(q1X⊕z1X)):=bif decide (x.c<x.dc) then bindO (M56.m ⟨x.dn,x.dt,x.a,IntKind.i64.wrap (IntKind.i64.wrap (x.dc - 1) - x.c)⟩) λy=>bif inR x.j x.dph.length then bindO (M67.m ⟨IntKind.u64.wrap (↑(BitVec.ofInt 64 y&&&BitVec.ofInt 64 (x.dph[x.j.toNat]?.getD 0)).toNat:Int)⟩) λy=>bif inR x.j x.l.length then bif inR x.c (List.length (x.l[x.j.toNat]?.getD [])) then bif inR x.j x.s.length||!!IntKind.u64.wrap ((x.l[x.j.toNat]?.getD [])[x.c.toNat]?.getD 0) !=y then bif inR x.c (List.length (x.s[x.j.toNat]?.getD []))||!!IntKind.u64.wrap ((x.l[x.j.toNat]?.getD [])[x.c.toNat]?.getD 0) !=y then bif inR x.j x.l.length||!!IntKind.u64.wrap ((x.l[x.j.toNat]?.getD [])[x.c.toNat]?.getD 0) !=y then bif inR x.c (List.length (x.l[x.j.toNat]?.getD []))||!!IntKind.u64.wrap ((x.l[x.j.toNat]?.getD [])[x.c.toNat]?.getD 0) !=y then bif inR x.j x.o.length||!!IntKind.u64.wrap ((x.l[x.j.toNat]?.getD [])[x.c.toNat]?.getD 0) !=y then bif inR x.c (List.length (x.o[x.j.toNat]?.getD []))||!!IntKind.u64.wrap ((x.l[x.j.toNat]?.getD [])[x.c.toNat]?.getD 0) !=y then bindO (bif !bif IntKind.u64.wrap ((x.l[x.j.toNat]?.getD [])[x.c.toNat]?.getD 0) !=y then true else (x.s[x.j.toNat]?.getD [])[x.c.toNat]?.getD 0 !=IntKind.u8.wrap (↑(BitVec.ofInt 8 ((x.l[x.j.toNat]?.getD [])[x.c.toNat]?.getD 0)^^^BitVec.ofInt 8 ((x.o[x.j.toNat]?.getD [])[x.c.toNat]?.getD 0)).toNat:Int) then M37.m ⟨x.vn,x.vw,IntKind.i64.wrap (IntKind.i64.wrap (x.j*x.dc)+x.c)⟩ else some (Int.ofNat 0)) λy_1=>bif bif bif IntKind.u64.wrap ((x.l[x.j.toNat]?.getD [])[x.c.toNat]?.getD 0) !=y then true else (x.s[x.j.toNat]?.getD [])[x.c.toNat]?.getD 0 !=IntKind.u8.wrap (↑(BitVec.ofInt 8 ((x.l[x.j.toNat]?.getD [])[x.c.toNat]?.getD 0)^^^BitVec.ofInt 8 ((x.o[x.j.toNat]?.getD [])[x.c.toNat]?.getD 0)).toNat:Int) then true else IntKind.u64.wrap y_1 !=y then some (Sum.inr (Sum.inr ⟨false⟩)) else some (Sum.inl ⟨x.a,x.l,x.o,x.s,x.j,IntKind.i64.wrap (x.c+1),x.dn,x.dt,x.dph,x.dc,x.vn,x.vw⟩) else none else none else none else none else none else none else none else none else none else some (Sum.inr (Sum.inl ⟨x.a,x.l,x.o,x.s,x.j,x.dn,x.dt,x.dph,x.dc,x.vn,x.vw⟩))
theorem X3(x:p1X):exec E2 240 (C14.Q2 1) 2 (p1.R x) (p1.H x) (JF 0 p1 (.exit 2) q1 .ret z1)=s1 x:=by kernel_rfl
def l1:QU:=JG 0 p1 (.exit 2) q1 .ret z1 s1
theorem tl1:QI (C14.Q2 1) 2=[]:=by kernel_rfl
theorem X6  :QH Try.prog 240 none 0 (C14.Q2 1) l1:=Qi mixed (Q5 QB Q3 _) (by trivial) (by trivial) (λ_=>rfl) (λ_=>rfl) (λ_=>rfl) (tl1▸QA.nil) X3
def E1:Env:=⟨ty,QN cl,JH [(1,l1)],none⟩
structure p0X where(a:Int)(l o s:List (List (Int)))(j dn dt:Int)(dph:List (Int))(dc vn:Int)(vw:List (Int))
def p0:Pt p0X where
 own:=[]
 t:=⟨[(5,.c (.ptr 2 0)),(6,.c (.it .u64)),(8,.c (.arr (.sl (.int .u8)))),(10,.c (.arr (.sl (.int .u8)))),(12,.c (.arr (.sl (.int .u8)))),(16,.c (.ptr 4 0)),(18,.c (.it .i64))],[.st [.junk,.junk,.junk,.junk] 1 0,.st [.junk,.junk] 1 0,.st [.it .i64,.it .u64,.arr (.int .u64),.it .i64] 1 0,.st [.junk,.junk] 1 0,.st [.it .i64,.arr (.int .u64)] 1 0]⟩
 to:=λv=>⟨v.1.2.1,v.1.2.2.1,v.1.2.2.2.1,v.1.2.2.2.2.1,v.1.2.2.2.2.2.2.1,v.2.2.2.1.1,v.2.2.2.1.2.1,v.2.2.2.1.2.2.1,v.2.2.2.1.2.2.2.1,v.2.2.2.2.2.1.1,v.2.2.2.2.2.1.2.1⟩
 fr:=λx=>(((),(x.a,(x.l,(x.o,(x.s,((),(x.j,()))))))),(((),((),((),((),())))),(((),((),())),((x.dn,(x.dt,(x.dph,(x.dc,())))),(((),((),())),((x.vn,(x.vw,())),()))))))
abbrev q0X:=Unit
def q0:Pt q0X where
 own:=[]
 t:=⟨[],[]⟩
 to:=λv=>()
 fr:=λx=>((),())
structure z0X where(r:Bool)
def z0:Pt z0X where
 own:=[]
 t:=⟨[(4,.c (.bo))],[]⟩
 to:=λv=>⟨v.1.1⟩
 fr:=λx=>((x.r,()),())
def s0(x:p0X):Option (p0X⊕(q0X⊕z0X)):=bif decide (x.j<(↑x.l.length:Int)) then bif inR x.j x.l.length then bif inR x.j x.o.length||!!(↑(List.length (x.l[x.j.toNat]?.getD [])):Int) !=x.dc then bif inR x.j x.s.length||!!bif (↑(List.length (x.l[x.j.toNat]?.getD [])):Int) !=x.dc then true else (↑(List.length (x.o[x.j.toNat]?.getD [])):Int) !=x.dc then bif bif bif (↑(List.length (x.l[x.j.toNat]?.getD [])):Int) !=x.dc then true else (↑(List.length (x.o[x.j.toNat]?.getD [])):Int) !=x.dc then true else (↑(List.length (x.s[x.j.toNat]?.getD [])):Int) !=x.dc then some (Sum.inr (Sum.inr ⟨false⟩)) else bindO (iter s1 ⟨x.a,x.l,x.o,x.s,x.j,0,x.dn,x.dt,x.dph,x.dc,x.vn,x.vw⟩) λs=>sumC s (λy=>some (Sum.inl ⟨y.a,y.l,y.o,y.s,IntKind.i64.wrap (y.j+1),y.dn,y.dt,y.dph,y.dc,y.vn,y.vw⟩)) λz=>some (Sum.inr (Sum.inr ⟨z.r⟩)) else none else none else none else some (Sum.inr (Sum.inl PUnit.unit))
theorem QZ(x:p0X):exec E1 240 (C14.Q2 0) 1 (p0.R x) (p0.H x) (JF 0 p0 (.exit 0) q0 .ret z0)=s0 x:=by kernel_rfl
def l0:QU:=JG 0 p0 (.exit 0) q0 .ret z0 s0
theorem tl0:QI (C14.Q2 0) 1=[(1,C14.Q2 1)]:=by kernel_rfl
theorem Qa  :QH Try.prog 240 none 0 (C14.Q2 0) l0:=Qi mixed (Q5 QB Q3 _) (by trivial) (by trivial) (λ_=>rfl) (λ_=>rfl) (λ_=>rfl) (tl0▸(QA.cons rfl X6 QA.nil)) QZ
def E0:Env:=⟨ty,QN cl,JH [(0,l0),(1,l1)],none⟩
def m(x:gX):Option fY:=bif decide ((↑x.ph.length:Int)>8) then bindO (M59.m PUnit.unit) λy=>some y else bindO (M60.m ⟨x.n,x.t,x.ph,x.c⟩) λy=>bif decide (0<=y.1) then bif nz (IntKind.u64.wrap (1*2^min y.1.toNat 64)) then bif decide (0<=y.1) then bif nz (IntKind.u64.wrap (1*2^min y.1.toNat 64)) then bindO (M61.m ⟨y.1,y.2.1,y.2.2.1,y.2.2.2,x.sa.tmod (IntKind.u64.wrap (1*2^min y.1.toNat 64))⟩) λy_1=>bindO (M61.m ⟨y.1,y.2.1,y.2.2.1,y.2.2.2,x.sb.tmod (IntKind.u64.wrap (1*2^min y.1.toNat 64))⟩) λy_2=>bindO (M61.m ⟨y.1,y.2.1,y.2.2.1,y.2.2.2,IntKind.u64.wrap (↑(BitVec.ofInt 64 (x.sa.tmod (IntKind.u64.wrap (1*2^min y.1.toNat 64)))^^^BitVec.ofInt 64 (x.sb.tmod (IntKind.u64.wrap (1*2^min y.1.toNat 64)))).toNat:Int)⟩) λy_3=>bindO (M65.m ⟨y.1,y.2.1,y.2.2.1,y.2.2.2⟩) λy_4=>bindO (M66.m ⟨x.sa.tmod (IntKind.u64.wrap (1*2^min y.1.toNat 64)),y.1⟩) λy_5=>bindO (M29.m ⟨y_4.1,y_4.2.1,y_5.1,y_5.2⟩) λy_6=>bif bif bif bif bif bif bif bif bif bif y_1.2 !=0 then true else y_2.2 !=0 then true else y_3.2 !=0 then true else y_4.2.2 !=0 then true else y_6.2.2 !=0 then true else (↑y_1.1.length:Int) !=(↑y.2.2.1.length:Int) then true else (↑y_2.1.length:Int) !=(↑y_1.1.length:Int) then true else (↑y_3.1.length:Int) !=(↑y_1.1.length:Int) then true else y_6.1 !=IntKind.i64.wrap ((↑y_1.1.length:Int)*y.2.2.2) then true else y_4.1 !=y.1 then some false else bindO (iter s0 ⟨x.sa.tmod (IntKind.u64.wrap (1*2^min y.1.toNat 64)),y_1.1,y_2.1,y_3.1,0,y.1,y.2.1,y.2.2.1,y.2.2.2,y_6.1,y_6.2.1⟩) λs=>sumC s (λy=>bindO (M59.m PUnit.unit) λy=>some y) λz=>some z.r else none else none else none else none
theorem QL(x:gX):exec E0 240 C14 0 (QP 0 (g.A x)) (g.H x) (finish 0 ty [.tmp 4] f)=m x:=by kernel_rfl
theorem tl:QI C14 0=[(0,C14.Q2 0)]:=by kernel_rfl
theorem known:QM Try.prog 14 g f m:=
 Q8 mixed (Q5 QB Q3 _) s14 rfl rfl tl (QA.cons rfl Qa QA.nil) (λ_ _=>⟨rfl,rfl⟩) (λ_ _=>⟨rfl,rfl⟩) QL
end M14
namespace M13
structure gX where(n t:Int)(ph:List (Int))(c:Int)(v:List (Int))
def g:Sg gX:=⟨[.agg [.it .u8,.it .u64,.arr (.int .u64),.it .u8],.c (.arr (.int .u8))],[],λa b=>⟨a.1.1,a.1.2.1,a.1.2.2.1,a.1.2.2.2.1,a.2.1⟩,λx=>((x.n,(x.t,(x.ph,(x.c,())))),(x.v,())),λx=>()⟩
abbrev fY:=Bool
def f:Ft fY:=⟨none,.c (.bo),[],λa b=>(a),λy=>y,λy=>()⟩
def cl:List (FuncId×Con):=[(59,M59.con),(60,M60.con),(61,M61.con),(63,M63.con),(64,M64.con)]
theorem Q3:QF Try.prog cl:=⟨M59.con_ok,M60.con_ok,M61.con_ok,M63.con_ok,M64.con_ok,trivial⟩
def E3:Env:=⟨ty,QN cl,λ_=>none,none⟩
structure p2X where(want:List (List (Int)))(some_:Bool)(s dn dt:Int)(dph:List (Int))(dc:Int)
def p2:Pt p2X where
 own:=[]
 t:=⟨[(5,.c (.ptr 1 0)),(6,.c (.arr (.sl (.int .u8)))),(12,.c (.bo)),(13,.c (.it .u64))],[.st [.junk,.junk,.junk,.junk] 1 0,.st [.it .i64,.it .u64,.arr (.int .u64),.it .i64] 1 0]⟩
 to:=λv=>⟨v.1.2.1,v.1.2.2.1,v.1.2.2.2.1,v.2.2.1.1,v.2.2.1.2.1,v.2.2.1.2.2.1,v.2.2.1.2.2.2.1⟩
 fr:=λx=>(((),(x.want,(x.some_,(x.s,())))),(((),((),((),((),())))),((x.dn,(x.dt,(x.dph,(x.dc,())))),())))
structure q2X where(want:List (List (Int)))(some_:Bool)(dn dt:Int)(dph:List (Int))(dc:Int)
def q2:Pt q2X where
 own:=[]
 t:=⟨[(5,.c (.ptr 1 0)),(6,.c (.arr (.sl (.int .u8)))),(12,.c (.bo))],[.st [.junk,.junk,.junk,.junk] 1 0,.st [.it .i64,.it .u64,.arr (.int .u64),.it .i64] 1 0]⟩
 to:=λv=>⟨v.1.2.1,v.1.2.2.1,v.2.2.1.1,v.2.2.1.2.1,v.2.2.1.2.2.1,v.2.2.1.2.2.2.1⟩
 fr:=λx=>(((),(x.want,(x.some_,()))),(((),((),((),((),())))),((x.dn,(x.dt,(x.dph,(x.dc,())))),())))
structure z2X where(r:Bool)
def z2:Pt z2X where
 own:=[]
 t:=⟨[(4,.c (.bo))],[]⟩
 to:=λv=>⟨v.1.1⟩
 fr:=λx=>((x.r,()),())
def s2(x:p2X):Option (p2X⊕(q2X⊕z2X)):=bif decide (0<=x.dn) then bif decide (x.s<IntKind.u64.wrap (1*2^min x.dn.toNat 64)) then bindO (M61.m ⟨x.dn,x.dt,x.dph,x.dc,x.s⟩) λy=>bif y.2 !=0 then some (Sum.inr (Sum.inr ⟨false⟩)) else bindO (bif !x.some_ then M64.m ⟨y.1,x.want⟩ else some false) λy=>some (Sum.inl ⟨x.want,bif x.some_ then true else y,IntKind.u64.wrap (x.s+1),x.dn,x.dt,x.dph,x.dc⟩) else some (Sum.inr (Sum.inl ⟨x.want,x.some_,x.dn,x.dt,x.dph,x.dc⟩)) else none
theorem VI(x:p2X):exec E3 130 (C13.Q2 2) 3 (p2.R x) (p2.H x) (JF 0 p2 (.exit 4) q2 .ret z2)=s2 x:=by kernel_rfl
def l2:QU:=JG 0 p2 (.exit 4) q2 .ret z2 s2
theorem tl2:QI (C13.Q2 2) 3=[]:=by kernel_rfl
theorem Vi  :QH Try.prog 130 none 0 (C13.Q2 2) l2:=Qi mixed (Q5 QB Q3 _) (by trivial) (by trivial) (λ_=>rfl) (λ_=>rfl) (λ_=>rfl) (tl2▸QA.nil) VI
def E2:Env:=⟨ty,QN cl,JH [(2,l2)],none⟩
structure p1X where(v:List (Int))(want_lo want_len:Nat)(k j:Int)(l_lo l_len:Nat)(i dn dt:Int)(dph:List (Int))(dc:Int)(want:List (List (Int)))(l:List (Int))
def p1:Pt p1X where
 own:=[.reg 9 (.int .u8)]
 t:=⟨[(1,.c (.arr (.int .u8))),(5,.c (.ptr 1 0)),(6,.c (.sl 2 0 1)),(7,.c (.it .i64)),(8,.c (.it .i64)),(9,.c (.sl 3 0 1)),(10,.c (.it .i64))],[.st [.junk,.junk,.junk,.junk] 1 0,.st [.it .i64,.it .u64,.arr (.int .u64),.it .i64] 1 0,.arr (.sl (.int .u8)) 0,.arr (.int .u8) 0]⟩
 to:=λv=>⟨v.1.1,v.1.2.2.1.1,v.1.2.2.1.2,v.1.2.2.2.1,v.1.2.2.2.2.1,v.1.2.2.2.2.2.1.1,v.1.2.2.2.2.2.1.2,v.1.2.2.2.2.2.2.1,v.2.2.1.1,v.2.2.1.2.1,v.2.2.1.2.2.1,v.2.2.1.2.2.2.1,v.2.2.2.1,v.2.2.2.2.1⟩
 fr:=λx=>((x.v,((),((x.want_lo,x.want_len),(x.k,(x.j,((x.l_lo,x.l_len),(x.i,()))))))),(((),((),((),((),())))),((x.dn,(x.dt,(x.dph,(x.dc,())))),(x.want,(x.l,())))))
structure q1X where(v:List (Int))(want_lo want_len:Nat)(k j:Int)(l:List (Int))(dn dt:Int)(dph:List (Int))(dc:Int)(want:List (List (Int)))
def q1:Pt q1X where
 own:=[]
 t:=⟨[(1,.c (.arr (.int .u8))),(5,.c (.ptr 1 0)),(6,.c (.sl 2 0 1)),(7,.c (.it .i64)),(8,.c (.it .i64)),(9,.c (.arr (.int .u8)))],[.st [.junk,.junk,.junk,.junk] 1 0,.st [.it .i64,.it .u64,.arr (.int .u64),.it .i64] 1 0,.arr (.sl (.int .u8)) 0]⟩
 to:=λv=>⟨v.1.1,v.1.2.2.1.1,v.1.2.2.1.2,v.1.2.2.2.1,v.1.2.2.2.2.1,v.1.2.2.2.2.2.1,v.2.2.1.1,v.2.2.1.2.1,v.2.2.1.2.2.1,v.2.2.1.2.2.2.1,v.2.2.2.1⟩
 fr:=λx=>((x.v,((),((x.want_lo,x.want_len),(x.k,(x.j,(x.l,())))))),(((),((),((),((),())))),((x.dn,(x.dt,(x.dph,(x.dc,())))),(x.want,()))))
def s1(x:p1X):Option (p1X⊕q1X):=bif decide (x.i<x.dc) then bif bif inR x.k x.v.length&&true then true else bif decide (x.k<(↑x.v.length:Int)) then false else true then bif eqN x.l_lo 0&&eqN x.l.length x.l_len&&Ql (x.l_len+1) 1 then some (Sum.inl ⟨x.v,x.want_lo,x.want_len,IntKind.i64.wrap (x.k+1),x.j,0,x.l_len+1,IntKind.i64.wrap (x.i+1),x.dn,x.dt,x.dph,x.dc,x.want,x.l++[bif decide (x.k<(↑x.v.length:Int)) then if 2<Int.tmod (x.v[x.k.toNat]?.getD 0) 4 then 2 else Int.tmod (x.v[x.k.toNat]?.getD 0) 4 else 2]⟩) else none else none else bif leB (x.l_lo+x.l_len) x.l.length&&true&&true then some (Sum.inr ⟨x.v,x.want_lo,x.want_len,x.k,x.j,List.take x.l_len (List.drop x.l_lo x.l),x.dn,x.dt,x.dph,x.dc,x.want⟩) else none
theorem X3(x:p1X):exec E2 130 (C13.Q2 1) 2 (p1.R x) (p1.H x) (Qr 0 p1 (.exit 2) q1)=s1 x:=by kernel_rfl
def l1:QU:=Qs 0 p1 (.exit 2) q1 s1
theorem tl1:QI (C13.Q2 1) 2=[]:=by kernel_rfl
theorem X6  :QH Try.prog 130 none 0 (C13.Q2 1) l1:=QS mixed (Q5 QB Q3 _) (by trivial) (λ_=>rfl) (λ_=>rfl) (tl1▸QA.nil) X3
def E1:Env:=⟨ty,QN cl,JH [(1,l1),(2,l2)],none⟩
structure p0X where(v:List (Int))(want_lo want_len:Nat)(k j dn dt:Int)(dph:List (Int))(dc:Int)(want:List (List (Int)))
def p0:Pt p0X where
 own:=[.reg 6 (.sl (.int .u8))]
 t:=⟨[(1,.c (.arr (.int .u8))),(5,.c (.ptr 1 0)),(6,.c (.sl 2 0 1)),(7,.c (.it .i64)),(8,.c (.it .i64))],[.st [.junk,.junk,.junk,.junk] 1 0,.st [.it .i64,.it .u64,.arr (.int .u64),.it .i64] 1 0,.arr (.sl (.int .u8)) 0]⟩
 to:=λv=>⟨v.1.1,v.1.2.2.1.1,v.1.2.2.1.2,v.1.2.2.2.1,v.1.2.2.2.2.1,v.2.2.1.1,v.2.2.1.2.1,v.2.2.1.2.2.1,v.2.2.1.2.2.2.1,v.2.2.2.1⟩
 fr:=λx=>((x.v,((),((x.want_lo,x.want_len),(x.k,(x.j,()))))),(((),((),((),((),())))),((x.dn,(x.dt,(x.dph,(x.dc,())))),(x.want,()))))
structure q0X where(want:List (List (Int)))(dn dt:Int)(dph:List (Int))(dc:Int)
def q0:Pt q0X where
 own:=[]
 t:=⟨[(5,.c (.ptr 1 0)),(6,.c (.arr (.sl (.int .u8))))],[.st [.junk,.junk,.junk,.junk] 1 0,.st [.it .i64,.it .u64,.arr (.int .u64),.it .i64] 1 0]⟩
 to:=λv=>⟨v.1.2.1,v.2.2.1.1,v.2.2.1.2.1,v.2.2.1.2.2.1,v.2.2.1.2.2.2.1⟩
 fr:=λx=>(((),(x.want,())),(((),((),((),((),())))),((x.dn,(x.dt,(x.dph,(x.dc,())))),())))
def s0(x:p0X):Option (p0X⊕q0X):=bif decide (x.j<(↑x.dph.length:Int)) then bindO (iter s1 ⟨x.v,x.want_lo,x.want_len,x.k,x.j,0,0,0,x.dn,x.dt,x.dph,x.dc,x.want,[]⟩) λy=>bif eqN y.want_lo 0&&eqN y.want.length y.want_len&&Ql (y.want_len+1) 24 then some (Sum.inl ⟨y.v,0,y.want_len+1,y.k,IntKind.i64.wrap (y.j+1),y.dn,y.dt,y.dph,y.dc,y.want++[y.l]⟩) else none else bif leB (x.want_lo+x.want_len) x.want.length&&true&&true then some (Sum.inr ⟨List.take x.want_len (List.drop x.want_lo x.want),x.dn,x.dt,x.dph,x.dc⟩) else none
theorem QZ(x:p0X):exec E1 130 (C13.Q2 0) 1 (p0.R x) (p0.H x) (Qr 0 p0 (.exit 0) q0)=s0 x:=by kernel_rfl
def l0:QU:=Qs 0 p0 (.exit 0) q0 s0
theorem tl0:QI (C13.Q2 0) 1=[(1,C13.Q2 1)]:=by kernel_rfl
theorem Qa  :QH Try.prog 130 none 0 (C13.Q2 0) l0:=QS mixed (Q5 QB Q3 _) (by trivial) (λ_=>rfl) (λ_=>rfl) (tl0▸(QA.cons rfl X6 QA.nil)) QZ
def E0:Env:=⟨ty,QN cl,JH [(0,l0),(1,l1),(2,l2)],none⟩
def m(x:gX):Option fY:=bif bif decide ((↑x.ph.length:Int)>4) then true else decide ((↑x.v.length:Int)>60) then bindO (M59.m PUnit.unit) λy=>some y else bindO (M60.m ⟨x.n.tmod 6,x.t,x.ph,x.c⟩) λy=>bindO (iter s0 ⟨x.v,0,0,0,0,y.1,y.2.1,y.2.2.1,y.2.2.2,[]⟩) λy=>bindO (iter s2 ⟨y.want,false,0,y.dn,y.dt,y.dph,y.dc⟩) λs=>sumC s (λy=>bindO (M63.m ⟨y.dn,y.dt,y.dph,y.dc,y.want⟩) λy_1=>bif !y.some_ then bindO (bif bif y_1.2==9 then y_1.1==0 else false then M59.m PUnit.unit else some false) λy=>some (bif bif y_1.2==9 then y_1.1==0 else false then y else false) else bindO (M61.m ⟨y.dn,y.dt,y.dph,y.dc,y_1.1⟩) λy_2=>bindO (bif bif y_1.2==0 then y_2.2==0 else false then M64.m ⟨y_2.1,y.want⟩ else some false) λy=>bindO (bif bif bif y_1.2==0 then y_2.2==0 else false then y else false then M59.m PUnit.unit else some false) λy_3=>some (bif bif bif y_1.2==0 then y_2.2==0 else false then y else false then y_3 else false)) λz=>some z.r
theorem QL(x:gX):exec E0 130 C13 0 (QP 0 (g.A x)) (g.H x) (finish 0 ty [.tmp 4] f)=m x:=by kernel_rfl
theorem tl:QI C13 0=[(0,C13.Q2 0),(2,C13.Q2 2)]:=by kernel_rfl
theorem known:QM Try.prog 13 g f m:=
 Q8 mixed (Q5 QB Q3 _) s13 rfl rfl tl (QA.cons rfl Qa (QA.cons rfl Vi QA.nil)) (λ_ _=>⟨rfl,rfl⟩) (λ_ _=>⟨rfl,rfl⟩) QL
end M13
