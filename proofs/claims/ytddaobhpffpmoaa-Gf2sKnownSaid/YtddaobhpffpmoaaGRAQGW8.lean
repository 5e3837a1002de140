/-
  The functions of gf2s and shifters, run on symbolic values.
-/
import Derived.Test.YtddaobhpffpmoaaGRAQGc
import Derived.Test.YtddaobhpffpmoaaGRAQGa
import Derived.Test.YtddaobhpffpmoaaGRAQGb
set_option linter.all false
noncomputable section
namespace Go.Proofs.Ytddaobhpffpmoaa
open Go.Abs
set_option maxRecDepth 100000
namespace M9
structure gX where
 an:Int
 aw:List (Int)
 bn:Int
 bw:List (Int)
 mc:Int
 mr:List ((Int)×List (Int))
def g:Sg gX where
 vs:=[.agg [.it .i64,.arr (.int .u64)],.agg [.it .i64,.arr (.int .u64)],.agg [.it .i64,.arr (.pair (.int .i64) (.sl (.int .u64)))]]
 h:=[]
 to:=fun a b=>⟨a.1.1,a.1.2.1,a.2.1.1,a.2.1.2.1,a.2.2.1.1,a.2.2.1.2.1⟩
 fa:=fun x=>((x.an,(x.aw,())),((x.bn,(x.bw,())),((x.mc,(x.mr,())),())))
 fh:=fun x=>()
abbrev fY:=Bool
def f:Ft fY where
 ord:=none
 sh:=.c (.bo)
 h:=[]
 to:=fun a b=>(a)
 fv:=fun y=>y
 fh:=fun y=>()
def cl:List (FuncId×Con):=[(19,M19.con),(48,M48.con),(49,M49.con),(28,M28.con),(33,M33.con),(38,M38.con),(34,M34.con),(37,M37.con),(36,M36.con),(32,M32.con),(29,M29.con),(22,M22.con),(47,M47.con),(39,M39.con),(50,M50.con),(46,M46.con),(40,M40.con),(26,M26.con),(25,M25.con)]
theorem Q5:QG Try.prog cl:=⟨M19.Q1,M48.Q1,M49.Q1,M28.Q1,M33.Q1,M38.Q1,M34.Q1,M37.Q1,M36.Q1,M32.Q1,M29.Q1,M22.Q1,M47.Q1,M39.Q1,M50.Q1,M46.Q1,M40.Q1,M26.Q1,M25.Q1,trivial⟩
def E1:Env:=⟨ty,QL cl,fun _=>none,none⟩
structure p0X where
 e:Int
 v:Int
 i:Int
 an:Int
 aw:List (Int)
 mc:Int
 mr:List ((Int)×List (Int))
 xn:Int
 xw:List (Int)
 zc:Int
 zs_lo:Nat
 zs_len:Nat
 zr:List ((Int)×List (Int))
def p0:Pt p0X where
 own:=[.cell 14 1 (.pair (.int .i64) (.sl (.int .u64)))]
 t:=⟨[(3,.c (.ptr 0 0)),(5,.c (.ptr 2 0)),(7,.c (.ptr 3 0)),(9,.c (.it .i64)),(16,.c (.ptr 14 0)),(17,.c (.it .i64)),(18,.c (.it .i64))],[.st [.it .i64,.arr (.int .u64)] 1 0,.st [.junk,.junk] 1 0,.st [.it .i64,.arr (.pair (.int .i64) (.sl (.int .u64)))] 1 0,.st [.it .i64,.arr (.int .u64)] 1 0,.st [.junk,.junk] 1 0,.st [.junk] 1 0,.st [.junk] 1 0,.st [.junk] 1 0,.st [.junk] 1 0,.st [.junk] 1 0,.st [.junk] 1 0,.st [.junk] 1 0,.st [.junk] 1 0,.st [.junk,.junk] 1 0,.st [.it .i64,.sl 15 0 2] 1 0,.arr (.pair (.int .i64) (.sl (.int .u64))) 0]⟩
 to:=fun v=>⟨v.1.2.2.2.1,v.1.2.2.2.2.2.1,v.1.2.2.2.2.2.2.1,v.2.1.1,v.2.1.2.1,v.2.2.2.1.1,v.2.2.2.1.2.1,v.2.2.2.2.1.1,v.2.2.2.2.1.2.1,v.2.2.2.2.2.2.2.2.2.2.2.2.2.2.2.1.1,v.2.2.2.2.2.2.2.2.2.2.2.2.2.2.2.1.2.1.1,v.2.2.2.2.2.2.2.2.2.2.2.2.2.2.2.1.2.1.2,v.2.2.2.2.2.2.2.2.2.2.2.2.2.2.2.2.1⟩
 fr:=fun x=>(((),((),((),(x.e,((),(x.v,(x.i,()))))))),((x.an,(x.aw,())),(((),((),())),((x.mc,(x.mr,())),((x.xn,(x.xw,())),(((),((),())),(((),()),(((),()),(((),()),(((),()),(((),()),(((),()),(((),()),(((),()),(((),((),())),((x.zc,((x.zs_lo,x.zs_len),())),(x.zr,())))))))))))))))))
structure q0X where
 e:Int
 v:Int
 an:Int
 aw:List (Int)
 mc:Int
 mr:List ((Int)×List (Int))
 xn:Int
 xw:List (Int)
 zc:Int
 zs:List ((Int)×List (Int))
def q0:Pt q0X where
 own:=[]
 t:=⟨[(3,.c (.ptr 0 0)),(5,.c (.ptr 2 0)),(7,.c (.ptr 3 0)),(9,.c (.it .i64)),(16,.c (.ptr 14 0)),(17,.c (.it .i64))],[.st [.it .i64,.arr (.int .u64)] 1 0,.st [.junk,.junk] 1 0,.st [.it .i64,.arr (.pair (.int .i64) (.sl (.int .u64)))] 1 0,.st [.it .i64,.arr (.int .u64)] 1 0,.st [.junk,.junk] 1 0,.st [.junk] 1 0,.st [.junk] 1 0,.st [.junk] 1 0,.st [.junk] 1 0,.st [.junk] 1 0,.st [.junk] 1 0,.st [.junk] 1 0,.st [.junk] 1 0,.st [.junk,.junk] 1 0,.st [.it .i64,.arr (.pair (.int .i64) (.sl (.int .u64)))] 1 0]⟩
 to:=fun v=>⟨v.1.2.2.2.1,v.1.2.2.2.2.2.1,v.2.1.1,v.2.1.2.1,v.2.2.2.1.1,v.2.2.2.1.2.1,v.2.2.2.2.1.1,v.2.2.2.2.1.2.1,v.2.2.2.2.2.2.2.2.2.2.2.2.2.2.2.1.1,v.2.2.2.2.2.2.2.2.2.2.2.2.2.2.2.1.2.1⟩
 fr:=fun x=>(((),((),((),(x.e,((),(x.v,())))))),((x.an,(x.aw,())),(((),((),())),((x.mc,(x.mr,())),((x.xn,(x.xw,())),(((),((),())),(((),()),(((),()),(((),()),(((),()),(((),()),(((),()),(((),()),(((),()),(((),((),())),((x.zc,(x.zs,())),()))))))))))))))))
structure z0X where
 r:Bool
def z0:Pt z0X where
 own:=[]
 t:=⟨[(6,.c (.bo))],[]⟩
 to:=fun v=>⟨v.1.1⟩
 fr:=fun x=>((x.r,()),())
def s0(x:p0X):Option (p0X⊕(q0X⊕z0X)):=bif decide (x.i<(↑x.mr.length:Int)) then bif inR x.i x.mr.length then bif decide ((↑(List.length (x.mr[x.i.toNat]?.getD (0,[])).2):Int)>70) then Q0 (M19.m PUnit.unit) fun y=>some (Sum.inr (Sum.inr ⟨y⟩)) else bif inR x.i x.mr.length then Q0 (M48.m ⟨(x.mr[x.i.toNat]?.getD (0,[])).1,(x.mr[x.i.toNat]?.getD (0,[])).2⟩) fun y=>bif eqN x.zs_lo 0&&eqN x.zr.length x.zs_len&&QP (x.zs_len+1) 32 then bif x.v==0 then bif inR x.i x.mr.length then Q0 (M49.m ⟨(x.mr[x.i.toNat]?.getD (0,[])).1,(x.mr[x.i.toNat]?.getD (0,[])).2⟩) fun y_1=>bif inR x.i x.mr.length||!y_1==0 then some (Sum.inl ⟨x.e,bif bif y_1==0 then (x.mr[x.i.toNat]?.getD (0,[])).1 !=x.mc else false then 8 else y_1,IntKind.i64.wrap (x.i+1),x.an,x.aw,x.mc,x.mr,x.xn,x.xw,x.zc,0,x.zs_len+1,x.zr++[(y.1,y.2)]⟩) else none else none else bif inR x.i x.mr.length||!x.v==0 then some (Sum.inl ⟨x.e,bif bif x.v==0 then (x.mr[x.i.toNat]?.getD (0,[])).1 !=x.mc else false then 8 else x.v,IntKind.i64.wrap (x.i+1),x.an,x.aw,x.mc,x.mr,x.xn,x.xw,x.zc,0,x.zs_len+1,x.zr++[(y.1,y.2)]⟩) else none else none else none else none else bif leB (x.zs_lo+x.zs_len) x.zr.length&&true&&true then some (Sum.inr (Sum.inl ⟨x.e,x.v,x.an,x.aw,x.mc,x.mr,x.xn,x.xw,x.zc,List.take x.zs_len (List.drop x.zs_lo x.zr)⟩)) else none
theorem QV(x:p0X):exec E1 391 (C9.Q2 0) 1 (p0.R x) (p0.H x) (J3 0 p0 (.exit 1) q0 .ret z0)=s0 x:=by kernel_rfl
def l0:QS:=J4 0 p0 (.exit 1) q0 .ret z0 s0
theorem tl0:QI (C9.Q2 0) 1=[]:=by kernel_rfl
theorem QW  :QF Try.prog 391 none 0 (C9.Q2 0) l0:=Qc mixed (Q8 QC Q5 _) (by trivial) (by trivial) (fun _=>rfl) (fun _=>rfl) (fun _=>rfl) (tl0▸QB.nil) QV
def E0:Env:=⟨ty,QL cl,JA [(0,l0)],none⟩
def m(x:gX):Option fY:=bif bif bif decide ((↑x.aw.length:Int)>70) then true else decide ((↑x.bw.length:Int)>70) then true else decide ((↑x.mr.length:Int)>8) then Q0 (M19.m PUnit.unit) fun y=>some y else Q0 (M48.m ⟨x.an,x.aw⟩) fun y=>Q0 (M48.m ⟨x.bn,x.bw⟩) fun y_1=>Q0 (M49.m ⟨x.an,x.aw⟩) fun y_2=>Q0 (M49.m ⟨x.bn,x.bw⟩) fun y_3=>Q0 (M28.m ⟨y.1,y.2,y_1.1,y_1.2⟩) fun y_4=>Q0 (M33.m ⟨y.1,y.2,y_1.1,y_1.2⟩) fun y_5=>Q0 (M38.m ⟨y.1,y.2⟩) fun y_6=>bif bif bif bif y_6 !=y_2 then true else y_4.2.2 !=bif bif (bif y_2==0 then y_3 else y_2)==0 then x.an !=x.bn else false then 8 else bif y_2==0 then y_3 else y_2 then true else y_5.2 !=bif bif (bif y_2==0 then y_3 else y_2)==0 then x.an !=x.bn else false then 8 else bif y_2==0 then y_3 else y_2 then true else bif (bif bif (bif y_2==0 then y_3 else y_2)==0 then x.an !=x.bn else false then 8 else bif y_2==0 then y_3 else y_2) !=0 then bif bif y_4.1 !=0 then true else decide ((↑y_4.2.1.length:Int)>0) then true else y_5.1 !=0 else false then some false else Q0 (bif y_2 !=0 then M34.m ⟨y.1,y.2⟩ else some []) fun y_7=>Q0 (bif y_2 !=0&&!decide ((↑(List.length y_7):Int)>0) then M37.m ⟨y.1,y.2,0⟩ else some (Int.ofNat 0)) fun y_8=>Q0 (bif y_2 !=0&&!bif decide ((↑(List.length y_7):Int)>0) then true else y_8 !=0 then M36.m ⟨y.1,y.2⟩ else some (Int.ofNat 0)) fun y_9=>Q0 (bif y_2 !=0&&!bif bif decide ((↑(List.length y_7):Int)>0) then true else y_8 !=0 then true else y_9 !=0 then M32.m ⟨y.1,y.2⟩ else some []) fun y_10=>bif bif y_2 !=0 then bif bif bif decide ((↑(List.length y_7):Int)>0) then true else y_8 !=0 then true else y_9 !=0 then true else !y_10==[] else false then some false else Q0 (iter s0 ⟨y_2,bif decide (x.mc<0) then 1 else bif decide (x.mc>4096) then 3 else 0,0,x.an,x.aw,x.mc,x.mr,y.1,y.2,x.mc,0,0,[]⟩) fun s=>J6 s (fun y=>Q0 (M29.m ⟨y.zc,y.zs,y.xn,y.xw⟩) fun y_11=>Q0 (M22.m ⟨y.zc,y.zs,y.xn,y.xw⟩) fun y_12=>Q0 (M47.m ⟨y.zc,y.zs⟩) fun y_13=>Q0 (M39.m ⟨y.zc,y.zs,y.zc,y.zs⟩) fun y_14=>Q0 (M50.m ⟨y.zc,y.zs⟩) fun y_15=>Q0 (bif !bif bif bif bif y_15 !=y.v then true else y_11.2.2 !=bif bif (bif y.v==0 then y.e else y.v)==0 then y.an !=y.mc else false then 8 else bif y.v==0 then y.e else y.v then true else !bif y_12.2.2==bif bif (bif y.v==0 then y.e else y.v)==0 then y.an !=(↑y.mr.length:Int) else false then 8 else bif y.v==0 then y.e else y.v then true else bif (bif bif (bif y.v==0 then y.e else y.v)==0 then y.an !=(↑y.mr.length:Int) else false then 8 else bif y.v==0 then y.e else y.v)==0 then y_12.2.2==9 else false then true else !bif y_13.2.2==bif bif y.v==0 then y.mc !=(↑y.mr.length:Int) else false then 8 else y.v then true else bif (bif bif y.v==0 then y.mc !=(↑y.mr.length:Int) else false then 8 else y.v)==0 then y_13.2.2==9 else false then true else y_14.2.2 !=bif bif y.v==0 then y.mc !=(↑y.mr.length:Int) else false then 8 else y.v then M46.m ⟨y.zc,y.zs,y.zc,y.zs⟩ else some false) fun y_16=>bif bif bif bif bif bif y_15 !=y.v then true else y_11.2.2 !=bif bif (bif y.v==0 then y.e else y.v)==0 then y.an !=y.mc else false then 8 else bif y.v==0 then y.e else y.v then true else !bif y_12.2.2==bif bif (bif y.v==0 then y.e else y.v)==0 then y.an !=(↑y.mr.length:Int) else false then 8 else bif y.v==0 then y.e else y.v then true else bif (bif bif (bif y.v==0 then y.e else y.v)==0 then y.an !=(↑y.mr.length:Int) else false then 8 else bif y.v==0 then y.e else y.v)==0 then y_12.2.2==9 else false then true else !bif y_13.2.2==bif bif y.v==0 then y.mc !=(↑y.mr.length:Int) else false then 8 else y.v then true else bif (bif bif y.v==0 then y.mc !=(↑y.mr.length:Int) else false then 8 else y.v)==0 then y_13.2.2==9 else false then true else y_14.2.2 !=bif bif y.v==0 then y.mc !=(↑y.mr.length:Int) else false then 8 else y.v then true else !y_16 then some false else bif bif bif bif bif y_11.2.2 !=0 then decide ((↑y_11.2.1.length:Int)>0) else false then true else bif y_12.2.2 !=0 then decide ((↑y_12.2.1.length:Int)>0) else false then true else bif y_13.2.2 !=0 then decide ((↑y_13.2.1.length:Int)>0) else false then true else bif y_14.2.2 !=0 then decide ((↑y_14.2.1.length:Int)>0) else false then some false else bif y.v==0 then Q0 (M19.m PUnit.unit) fun y=>some y else Q0 (M40.m ⟨y.zc,y.zs⟩) fun y_17=>Q0 (M26.m ⟨y.zc,y.zs⟩) fun y_18=>Q0 (M25.m ⟨y.zc,y.zs⟩) fun y_19=>Q0 (bif bif bif bif y_17.2.2==y.v then y_18.2==y.v else false then y_19.2==y.v else false then IntKind.i64.wrap (IntKind.i64.wrap ((↑y_17.2.1.length:Int)+(↑y_19.1.length:Int))+y_18.1)==0 else false then M19.m PUnit.unit else some false) fun y_20=>some (bif bif bif bif y_17.2.2==y.v then y_18.2==y.v else false then y_19.2==y.v else false then IntKind.i64.wrap (IntKind.i64.wrap ((↑y_17.2.1.length:Int)+(↑y_19.1.length:Int))+y_18.1)==0 else false then y_20 else false)) fun z=>some z.r
theorem QJ(x:gX):exec E0 391 C9 0 (QN 0 (g.A x)) (g.H x) (finish 0 ty [.tmp 6] f)=m x:=by kernel_rfl
theorem tl:QI C9 0=[(0,C9.Q2 0)]:=by kernel_rfl
theorem known:QM Try.prog 9 g f m:=
 Q9 mixed (Q8 QC Q5 _) s9 rfl rfl tl (QB.cons rfl QW QB.nil) (fun _ _=>⟨rfl,rfl⟩) (fun _ _=>⟨rfl,rfl⟩) QJ
def con:Con:=Qx g f m default
theorem Q1:QO Try.prog 9 con:=QE known (fun _=>rfl) rfl
end M9
end Go.Proofs.Ytddaobhpffpmoaa
