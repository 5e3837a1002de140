/- A part of the proof. -/
import Derived.Test.YtnmlmdlhhphcoaaER8QEz
import Derived.Test.YtnmlmdlhhphcoaaER8QEy
import Derived.Test.YtnmlmdlhhphcoaaER8QEq
set_option linter.all false
namespace Go.Proofs.Ytnmlmdlhhphcoaa
section
open Go.Abs
namespace M13q
def sb0a'(x:XT):Option ZG:=bif decide (x.v<x.xs.length) then bif inR x.i x.l.length then bif decide (x.v<x.xs.length) then some { xs:=x.xs.set x.v (if x.l[x.i.toNat]?.getD 0<x.xs[x.v]?.getD 0 then x.l[x.i.toNat]?.getD 0 else x.xs[x.v]?.getD 0),ys:=x.ys,oi_lo:=x.oi_lo,oi_len:=x.oi_len,oi_cap:=x.oi_cap,os_lo:=x.os_lo,os_len:=x.os_len,os_cap:=x.os_cap,l:=x.l,bi_lo:=x.bi_lo,bi_len:=x.bi_len,bi_cap:=x.bi_cap,bs_lo:=x.bs_lo,bs_len:=x.bs_len,bs_cap:=x.bs_cap } else none else none
else none
theorem Y8(x:_):Le (sb0a' x) (Xo x):=by
 unfold sb0a' Xo
 repeat' first|with_reducible exact Le.refl _|with_reducible apply Le.bind|with_reducible apply Le.cond|with_reducible apply Le.sum|intro _
def sb0b'(x:XS):Option ZF:=bif decide (x.v<x.ys.length) then bif inR x.i x.l.length then bif decide (x.v<x.ys.length) then some { xs:=x.xs,ys:=x.ys.set x.v (if x.l[x.i.toNat]?.getD 0<x.ys[x.v]?.getD 0 then x.l[x.i.toNat]?.getD 0 else x.ys[x.v]?.getD 0),oi_lo:=x.oi_lo,oi_len:=x.oi_len,oi_cap:=x.oi_cap,os_lo:=x.os_lo,os_len:=x.os_len,os_cap:=x.os_cap,l:=x.l,bi_lo:=x.bi_lo,bi_len:=x.bi_len,bi_cap:=x.bi_cap,bs_lo:=x.bs_lo,bs_len:=x.bs_len,bs_cap:=x.bs_cap } else none else none
else none
theorem Y6(x:_):Le (sb0b' x) (Xn x):=by
 unfold sb0b' Xn
 repeat' first|with_reducible exact Le.refl _|with_reducible apply Le.bind|with_reducible apply Le.cond|with_reducible apply Le.sum|intro _
def i0_s1'(x:QM):Option (QM⊕Qt):=bif decide (x.i2<x.n2) then bif inR x.i2 x.bs_len then Q1 (sb0b' { i:=IntKind.i64.wrap ((↑x.bi_len:Int)+x.i2),v:=x.bs_lo+x.i2.toNat,xs:=x.xs,ys:=x.ys,oi_lo:=x.oi_lo,oi_len:=x.oi_len,oi_cap:=x.oi_cap,os_lo:=x.os_lo,os_len:=x.os_len,os_cap:=x.os_cap,l:=x.l,bi_lo:=x.bi_lo,bi_len:=x.bi_len,bi_cap:=x.bi_cap,bs_lo:=x.bs_lo,bs_len:=x.bs_len,bs_cap:=x.bs_cap }) λy=>some (Sum.inl { n2:=x.n2,i2:=IntKind.i64.wrap (x.i2+1),xs:=y.xs,ys:=y.ys,oi_lo:=y.oi_lo,oi_len:=y.oi_len,oi_cap:=y.oi_cap,os_lo:=y.os_lo,os_len:=y.os_len,os_cap:=y.os_cap,l:=y.l,bi_lo:=y.bi_lo,bi_len:=y.bi_len,bi_cap:=y.bi_cap,bs_lo:=y.bs_lo,bs_len:=y.bs_len,bs_cap:=y.bs_cap }) else none
else
 some
  (Sum.inr
   {xs:=x.xs,ys:=x.ys,oi_lo:=x.oi_lo,oi_len:=x.oi_len,oi_cap:=x.oi_cap,os_lo:=x.os_lo,os_len:=x.os_len,os_cap:=x.os_cap,l:=x.l,bi_lo:=x.bi_lo,
    bi_len:=x.bi_len,bi_cap:=x.bi_cap,bs_lo:=x.bs_lo,bs_len:=x.bs_len,bs_cap:=x.bs_cap })
theorem JT(x:_):Le (i0_s1' x) (QK x):=by
 unfold i0_s1' QK
 repeat' first|with_reducible exact Le.refl _|with_reducible exact Y6 _|with_reducible apply Le.bind|with_reducible apply Le.cond|with_reducible apply Le.sum|intro _
def i0_s0'(x:QN):Option (QN⊕Qu):=bif decide (x.i<x.n) then bif inR x.i x.bi_len then Q1 (sb0a' { i:=x.i,v:=x.bi_lo+x.i.toNat,xs:=x.xs,ys:=x.ys,oi_lo:=x.oi_lo,oi_len:=x.oi_len,oi_cap:=x.oi_cap,os_lo:=x.os_lo,os_len:=x.os_len,os_cap:=x.os_cap,l:=x.l,bi_lo:=x.bi_lo,bi_len:=x.bi_len,bi_cap:=x.bi_cap,bs_lo:=x.bs_lo,bs_len:=x.bs_len,bs_cap:=x.bs_cap }) λy=>some (Sum.inl { n:=x.n,i:=IntKind.i64.wrap (x.i+1),xs:=y.xs,ys:=y.ys,oi_lo:=y.oi_lo,oi_len:=y.oi_len,oi_cap:=y.oi_cap,os_lo:=y.os_lo,os_len:=y.os_len,os_cap:=y.os_cap,l:=y.l,bi_lo:=y.bi_lo,bi_len:=y.bi_len,bi_cap:=y.bi_cap,bs_lo:=y.bs_lo,bs_len:=y.bs_len,bs_cap:=y.bs_cap }) else none
else
 some
  (Sum.inr
   {xs:=x.xs,ys:=x.ys,oi_lo:=x.oi_lo,oi_len:=x.oi_len,oi_cap:=x.oi_cap,os_lo:=x.os_lo,os_len:=x.os_len,os_cap:=x.os_cap,l:=x.l,bi_lo:=x.bi_lo,
    bi_len:=x.bi_len,bi_cap:=x.bi_cap,bs_lo:=x.bs_lo,bs_len:=x.bs_len,bs_cap:=x.bs_cap })
theorem JV(x:_):Le (i0_s0' x) (QL x):=by
 unfold i0_s0' QL
 repeat' first|with_reducible exact Le.refl _|with_reducible exact Y8 _|with_reducible apply Le.bind|with_reducible apply Le.cond|with_reducible apply Le.sum|intro _
def s0'(x:p0X):Option q0X:=Q1 (Qo i0_s0' 200 ⟨(↑x.bi_len:Int),0,x.xs,x.ys,x.oi_lo,x.oi_len,x.oi_cap,x.os_lo,x.os_len,x.os_cap,x.l,x.bi_lo,x.bi_len,x.bi_cap,x.bs_lo,x.bs_len,x.bs_cap⟩) λy=>Q1 (Qo i0_s1' 200 ⟨(↑y.bs_len:Int),0,y.xs,y.ys,y.oi_lo,y.oi_len,y.oi_cap,y.os_lo,y.os_len,y.os_cap,y.l,y.bi_lo,y.bi_len,y.bi_cap,y.bs_lo,y.bs_len,y.bs_cap⟩) λy=>some ⟨y.xs,y.ys,y.oi_lo,y.oi_len,y.oi_cap,y.os_lo,y.os_len,y.os_cap,y.l,y.bi_lo,y.bi_len,y.bi_cap,y.bs_lo,y.bs_len,y.bs_cap⟩
theorem Jn(x:_):Le (s0' x) (s0 x):=by
 unfold s0' s0
 repeat' first|with_reducible exact Le.refl _|with_reducible exact Le.iter JT _|with_reducible exact Le.iter JV _|with_reducible apply Le.bind|with_reducible apply Le.cond|with_reducible apply Le.sum|intro _
def m'(x:gX):Option fY:=Q1 (M33.m' ⟨x.ai,x.as_,x.bi,x.bs⟩) λy=>bif y !=0 then none else Q1 (M16.m' ⟨x.ai,x.as_,x.bi,x.bs⟩) λy=>bif !y then none else Q1 (M34.m ⟨x.ai,x.as_⟩) λy=>Q1 (M35.m' ⟨x.bi,x.bs⟩) λy_1=>Q1 (M36o.m ⟨y.1,y.2.1,y.2.2.1,y.2.2.2.1,y.2.2.2.2.1,y.2.2.2.2.2.1,y.2.2.2.2.2.2.1,y.2.2.2.2.2.2.2⟩) λy_2=>Q1 (s0' ⟨y_2.1,y_2.2.1,y.1,y.2.1,y.2.2.1,y.2.2.2.1,y.2.2.2.2.1,y.2.2.2.2.2.1,y_1,y_2.2.2.1,y_2.2.2.2.1,y_2.2.2.2.2.1,y_2.2.2.2.2.2.1,y_2.2.2.2.2.2.2.1,y_2.2.2.2.2.2.2.2⟩) λy=>some (y.oi_lo,y.oi_len,y.oi_cap,y.os_lo,y.os_len,y.os_cap,0,y.xs,y.ys)
theorem Qw(x:_):Le (m' x) (m x):=by
 unfold m' m
 repeat' first|with_reducible exact Le.refl _|with_reducible exact M33.Qw _|with_reducible exact M35.Qw _|with_reducible exact M16.Qw _|with_reducible exact Jn _|with_reducible apply Le.bind|with_reducible apply Le.cond|with_reducible apply Le.sum|intro _
end M13q
namespace M19q
def sb0a'(x:XT):Option ZG:=bif decide (x.v<x.xs.length) then bif x.xs[x.v]?.getD 0==2 then bif decide (x.v<x.xs.length) then some { w:=x.w,last:=x.last,xs:=x.xs.set x.v x.last,ys:=x.ys,oi_lo:=x.oi_lo,oi_len:=x.oi_len,oi_cap:=x.oi_cap,os_lo:=x.os_lo,os_len:=x.os_len,os_cap:=x.os_cap,bi_lo:=x.bi_lo,bi_len:=x.bi_len,bi_cap:=x.bi_cap,bs_lo:=x.bs_lo,bs_len:=x.bs_len,bs_cap:=x.bs_cap } else none else bif x.w==2 then bif decide (x.v<x.xs.length) then some { w:=x.w,last:=x.xs[x.v]?.getD 0,xs:=x.xs,ys:=x.ys,oi_lo:=x.oi_lo,oi_len:=x.oi_len,oi_cap:=x.oi_cap,os_lo:=x.os_lo,os_len:=x.os_len,os_cap:=x.os_cap,bi_lo:=x.bi_lo,bi_len:=x.bi_len,bi_cap:=x.bi_cap,bs_lo:=x.bs_lo,bs_len:=x.bs_len,bs_cap:=x.bs_cap } else none else some { w:=x.w,last:=x.last,xs:=x.xs,ys:=x.ys,oi_lo:=x.oi_lo,oi_len:=x.oi_len,oi_cap:=x.oi_cap,os_lo:=x.os_lo,os_len:=x.os_len,os_cap:=x.os_cap,bi_lo:=x.bi_lo,bi_len:=x.bi_len,bi_cap:=x.bi_cap,bs_lo:=x.bs_lo,bs_len:=x.bs_len,bs_cap:=x.bs_cap }
else none
theorem Y8(x:_):Le (sb0a' x) (Xo x):=by
 unfold sb0a' Xo
 repeat' first|with_reducible exact Le.refl _|with_reducible apply Le.bind|with_reducible apply Le.cond|with_reducible apply Le.sum|intro _
def sb0b'(x:XS):Option ZF:=bif decide (x.v<x.ys.length) then bif x.ys[x.v]?.getD 0==2 then bif decide (x.v<x.ys.length) then some { w:=x.w,last:=x.last,xs:=x.xs,ys:=x.ys.set x.v x.last,oi_lo:=x.oi_lo,oi_len:=x.oi_len,oi_cap:=x.oi_cap,os_lo:=x.os_lo,os_len:=x.os_len,os_cap:=x.os_cap,bi_lo:=x.bi_lo,bi_len:=x.bi_len,bi_cap:=x.bi_cap,bs_lo:=x.bs_lo,bs_len:=x.bs_len,bs_cap:=x.bs_cap } else none else bif x.w==2 then bif decide (x.v<x.ys.length) then some { w:=x.w,last:=x.ys[x.v]?.getD 0,xs:=x.xs,ys:=x.ys,oi_lo:=x.oi_lo,oi_len:=x.oi_len,oi_cap:=x.oi_cap,os_lo:=x.os_lo,os_len:=x.os_len,os_cap:=x.os_cap,bi_lo:=x.bi_lo,bi_len:=x.bi_len,bi_cap:=x.bi_cap,bs_lo:=x.bs_lo,bs_len:=x.bs_len,bs_cap:=x.bs_cap } else none else some { w:=x.w,last:=x.last,xs:=x.xs,ys:=x.ys,oi_lo:=x.oi_lo,oi_len:=x.oi_len,oi_cap:=x.oi_cap,os_lo:=x.os_lo,os_len:=x.os_len,os_cap:=x.os_cap,bi_lo:=x.bi_lo,bi_len:=x.bi_len,bi_cap:=x.bi_cap,bs_lo:=x.bs_lo,bs_len:=x.bs_len,bs_cap:=x.bs_cap }
else none
theorem Y6(x:_):Le (sb0b' x) (Xn x):=by
 unfold sb0b' Xn
 repeat' first|with_reducible exact Le.refl _|with_reducible apply Le.bind|with_reducible apply Le.cond|with_reducible apply Le.sum|intro _
def i0_s1'(x:QM):Option (QM⊕Qt):=bif decide (x.i2<x.n2) then bif inR x.i2 x.bs_len then Q1 (sb0b' { v:=x.bs_lo+x.i2.toNat,w:=x.w,last:=x.last,xs:=x.xs,ys:=x.ys,oi_lo:=x.oi_lo,oi_len:=x.oi_len,oi_cap:=x.oi_cap,os_lo:=x.os_lo,os_len:=x.os_len,os_cap:=x.os_cap,bi_lo:=x.bi_lo,bi_len:=x.bi_len,bi_cap:=x.bi_cap,bs_lo:=x.bs_lo,bs_len:=x.bs_len,bs_cap:=x.bs_cap }) λy=>some (Sum.inl { n2:=x.n2,i2:=IntKind.i64.wrap (x.i2+1),w:=y.w,last:=y.last,xs:=y.xs,ys:=y.ys,oi_lo:=y.oi_lo,oi_len:=y.oi_len,oi_cap:=y.oi_cap,os_lo:=y.os_lo,os_len:=y.os_len,os_cap:=y.os_cap,bi_lo:=y.bi_lo,bi_len:=y.bi_len,bi_cap:=y.bi_cap,bs_lo:=y.bs_lo,bs_len:=y.bs_len,bs_cap:=y.bs_cap }) else none
else
 some
  (Sum.inr
   {w:=x.w,last:=x.last,xs:=x.xs,ys:=x.ys,oi_lo:=x.oi_lo,oi_len:=x.oi_len,oi_cap:=x.oi_cap,os_lo:=x.os_lo,os_len:=x.os_len,os_cap:=x.os_cap,
    bi_lo:=x.bi_lo,bi_len:=x.bi_len,bi_cap:=x.bi_cap,bs_lo:=x.bs_lo,bs_len:=x.bs_len,bs_cap:=x.bs_cap })
theorem JT(x:_):Le (i0_s1' x) (QK x):=by
 unfold i0_s1' QK
 repeat' first|with_reducible exact Le.refl _|with_reducible exact Y6 _|with_reducible apply Le.bind|with_reducible apply Le.cond|with_reducible apply Le.sum|intro _
def i0_s0'(x:QN):Option (QN⊕Qu):=bif decide (x.i<x.n) then bif inR x.i x.bi_len then Q1 (sb0a' { v:=x.bi_lo+x.i.toNat,w:=x.w,last:=x.last,xs:=x.xs,ys:=x.ys,oi_lo:=x.oi_lo,oi_len:=x.oi_len,oi_cap:=x.oi_cap,os_lo:=x.os_lo,os_len:=x.os_len,os_cap:=x.os_cap,bi_lo:=x.bi_lo,bi_len:=x.bi_len,bi_cap:=x.bi_cap,bs_lo:=x.bs_lo,bs_len:=x.bs_len,bs_cap:=x.bs_cap }) λy=>some (Sum.inl { n:=x.n,i:=IntKind.i64.wrap (x.i+1),w:=y.w,last:=y.last,xs:=y.xs,ys:=y.ys,oi_lo:=y.oi_lo,oi_len:=y.oi_len,oi_cap:=y.oi_cap,os_lo:=y.os_lo,os_len:=y.os_len,os_cap:=y.os_cap,bi_lo:=y.bi_lo,bi_len:=y.bi_len,bi_cap:=y.bi_cap,bs_lo:=y.bs_lo,bs_len:=y.bs_len,bs_cap:=y.bs_cap }) else none
else
 some
  (Sum.inr
   {w:=x.w,last:=x.last,xs:=x.xs,ys:=x.ys,oi_lo:=x.oi_lo,oi_len:=x.oi_len,oi_cap:=x.oi_cap,os_lo:=x.os_lo,os_len:=x.os_len,os_cap:=x.os_cap,
    bi_lo:=x.bi_lo,bi_len:=x.bi_len,bi_cap:=x.bi_cap,bs_lo:=x.bs_lo,bs_len:=x.bs_len,bs_cap:=x.bs_cap })
theorem JV(x:_):Le (i0_s0' x) (QL x):=by
 unfold i0_s0' QL
 repeat' first|with_reducible exact Le.refl _|with_reducible exact Y8 _|with_reducible apply Le.bind|with_reducible apply Le.cond|with_reducible apply Le.sum|intro _
def s0'(x:p0X):Option q0X:=Q1 (Qo i0_s0' 200 ⟨(↑x.bi_len:Int),0,x.w,x.last,x.xs,x.ys,x.oi_lo,x.oi_len,x.oi_cap,x.os_lo,x.os_len,x.os_cap,x.bi_lo,x.bi_len,x.bi_cap,x.bs_lo,x.bs_len,x.bs_cap⟩) λy=>Q1 (Qo i0_s1' 200 ⟨(↑y.bs_len:Int),0,y.w,y.last,y.xs,y.ys,y.oi_lo,y.oi_len,y.oi_cap,y.os_lo,y.os_len,y.os_cap,y.bi_lo,y.bi_len,y.bi_cap,y.bs_lo,y.bs_len,y.bs_cap⟩) λy=>some ⟨y.w,y.last,y.xs,y.ys,y.oi_lo,y.oi_len,y.oi_cap,y.os_lo,y.os_len,y.os_cap,y.bi_lo,y.bi_len,y.bi_cap,y.bs_lo,y.bs_len,y.bs_cap⟩
theorem Jn(x:_):Le (s0' x) (s0 x):=by
 unfold s0' s0
 repeat' first|with_reducible exact Le.refl _|with_reducible exact Le.iter JT _|with_reducible exact Le.iter JV _|with_reducible apply Le.bind|with_reducible apply Le.cond|with_reducible apply Le.sum|intro _
def m'(x:gX):Option fY:=Q1 (M29.m' ⟨x.i,x.s⟩) λy=>bif y !=0 then none else bif x.w==0 then Q1 (M34.m ⟨x.i,x.s⟩) λy=>Q1 (M36o.m ⟨y.1,y.2.1,y.2.2.1,y.2.2.2.1,y.2.2.2.2.1,y.2.2.2.2.2.1,y.2.2.2.2.2.2.1,y.2.2.2.2.2.2.2⟩) λy_1=>Q1 (s0' ⟨x.w,0,y_1.1,y_1.2.1,y.1,y.2.1,y.2.2.1,y.2.2.2.1,y.2.2.2.2.1,y.2.2.2.2.2.1,y_1.2.2.1,y_1.2.2.2.1,y_1.2.2.2.2.1,y_1.2.2.2.2.2.1,y_1.2.2.2.2.2.2.1,y_1.2.2.2.2.2.2.2⟩) λy=>some (y.oi_lo,y.oi_len,y.oi_cap,y.os_lo,y.os_len,y.os_cap,0,y.xs,y.ys) else bif x.w==1 then Q1 (M34.m ⟨x.i,x.s⟩) λy=>Q1 (M36o.m ⟨y.1,y.2.1,y.2.2.1,y.2.2.2.1,y.2.2.2.2.1,y.2.2.2.2.2.1,y.2.2.2.2.2.2.1,y.2.2.2.2.2.2.2⟩) λy_1=>Q1 (s0' ⟨x.w,1,y_1.1,y_1.2.1,y.1,y.2.1,y.2.2.1,y.2.2.2.1,y.2.2.2.2.1,y.2.2.2.2.2.1,y_1.2.2.1,y_1.2.2.2.1,y_1.2.2.2.2.1,y_1.2.2.2.2.2.1,y_1.2.2.2.2.2.2.1,y_1.2.2.2.2.2.2.2⟩) λy=>some (y.oi_lo,y.oi_len,y.oi_cap,y.os_lo,y.os_len,y.os_cap,0,y.xs,y.ys) else bif x.w==2 then Q1 (M35.m' ⟨x.i,x.s⟩) λy=>Q1 (M40.m' ⟨y⟩) λy=>bif decide (y>=0) then Q1 (M35.m' ⟨x.i,x.s⟩) λy_1=>bif inR y (List.length y_1) then Q1 (M34.m ⟨x.i,x.s⟩) λy_2=>Q1 (M36o.m ⟨y_2.1,y_2.2.1,y_2.2.2.1,y_2.2.2.2.1,y_2.2.2.2.2.1,y_2.2.2.2.2.2.1,y_2.2.2.2.2.2.2.1,y_2.2.2.2.2.2.2.2⟩) λy_3=>Q1 (s0' ⟨x.w,y_1[Int.toNat y]?.getD 0,y_3.1,y_3.2.1,y_2.1,y_2.2.1,y_2.2.2.1,y_2.2.2.2.1,y_2.2.2.2.2.1,y_2.2.2.2.2.2.1,y_3.2.2.1,y_3.2.2.2.1,y_3.2.2.2.2.1,y_3.2.2.2.2.2.1,y_3.2.2.2.2.2.2.1,y_3.2.2.2.2.2.2.2⟩) λy=>some (y.oi_lo,y.oi_len,y.oi_cap,y.os_lo,y.os_len,y.os_cap,0,y.xs,y.ys) else none else Q1 (M34.m ⟨x.i,x.s⟩) λy=>Q1 (M36o.m ⟨y.1,y.2.1,y.2.2.1,y.2.2.2.1,y.2.2.2.2.1,y.2.2.2.2.2.1,y.2.2.2.2.2.2.1,y.2.2.2.2.2.2.2⟩) λy_1=>Q1 (s0' ⟨x.w,0,y_1.1,y_1.2.1,y.1,y.2.1,y.2.2.1,y.2.2.2.1,y.2.2.2.2.1,y.2.2.2.2.2.1,y_1.2.2.1,y_1.2.2.2.1,y_1.2.2.2.2.1,y_1.2.2.2.2.2.1,y_1.2.2.2.2.2.2.1,y_1.2.2.2.2.2.2.2⟩) λy=>some (y.oi_lo,y.oi_len,y.oi_cap,y.os_lo,y.os_len,y.os_cap,0,y.xs,y.ys) else none
theorem Qw(x:_):Le (m' x) (m x):=by
 unfold m' m
 repeat' first|with_reducible exact Le.refl _|with_reducible exact M29.Qw _|with_reducible exact M35.Qw _|with_reducible exact M40.Qw _|with_reducible exact Jn _|with_reducible apply Le.bind|with_reducible apply Le.cond|with_reducible apply Le.sum|intro _
end M19q
theorem m13q_v:M13q.m ⟨[0,2],[1],[0,2],[1]⟩=some (0,2,2,0,1,1,0,[0,2],[1]):=M13q.Qw _ _ (by kernel_rfl)
theorem m19q_v:M19q.m ⟨[0,2],[1],1⟩=some (0,2,2,0,1,1,0,[0,1],[1]):=M19q.Qw _ _ (by kernel_rfl)
end
section
open Go.Abs Go.RowKit
structure IsQ(n m:Nat)(W:World)(e:Ending)(W':World):Prop where
 ex:∃b s k b' s' k' cs t cs' t' x x',e=.returned (.tuple #[.agg #[.slice (some ⟨b,s,none⟩) n k,.slice (some ⟨b',s',none⟩) m k'],.int .i64 0])/\Bel W.heap.size W W'/\
  W.heap.size<=b/\W'.heap[b]? =some (.cells cs t (0,0))/\cs[s]? =some (.int .u8 x)/\W.heap.size<=b'/\W'.heap[b']? =some (.cells cs' t' (0,0))/\cs'[s']? =some (.int .u8 x')
theorem obj_lies{M:Map}{J:Q4}{w W:World}{id n c:Nat}{xs:List Int}{v:Value}(hH:HR M J w)(hs:Step JD [] W M J w)(ho:J[id]? =some { cs:=xs.map λx=>.t (.int .u8 x),es:=1,ep:=0 })(hx:xs≠[])(hv:CR M w (.sl ⟨id,0,0⟩ n (some c)) v):
  ∃b s k cs t x,v=.slice (some ⟨b,s,none⟩) n k/\W.heap.size<=b/\w.heap[b]? =some (.cells cs t (0,0))/\cs[s]? =some (.int .u8 x):=by
 obtain⟨a,k,rfl,_,sp,h1,h2,h3⟩:=hv;obtain⟨o,h4,h5,h6,h7⟩:=hH.obj _ _ h1;rw[ho]at h4;injection h4 with h4;subst h4;obtain⟨_,_,h8⟩:=h3 h6
 cases hl:sp.loc with
 |none=>rw[hl]at h7;have h7:xs.map (λx=>Cell.t (T.int .u8 x))=[]:=h7;simp at h7;exact absurd h7 hx
 |some l=>
  rw[hl]at h7 h8;obtain⟨⟨cells,elem,g1,g2⟩,g3,g4⟩:=h7;obtain⟨rfl,_⟩:=h8;have hlen:0<xs.length:=List.length_pos_iff.2 hx;obtain⟨u,g5,g6⟩:=g4 0 (by simpa using hlen);have g7:TR M.un w (.int .u8 xs[0]) u:=(by simpa [CR] using g6);cases g7;refine⟨l.blk,l.sh+0,k,cells,elem,xs[0],rfl,?_,g1,?_⟩
  ·rcases hs.new _ _ _ h1 hl with h|⟨id',s',l',h,_⟩
   ·exact h
   ·cases h
  ·simpa [World.cell?,g1] using g5
theorem calls_q{f:FuncId}{args:List AV}{n m c c':Nat}{xs ys:List Int}(hx:xs≠[])(hy:ys≠[])(h:Jl Try.prog f args [] λv τ=>v=.tup [.inr [.sl ⟨0,0,0⟩ n (some c),.sl ⟨1,0,0⟩ m (some c')],.inl (.t (.int .i64 0))]/\τ=[{ cs:=xs.map λx=>.t (.int .u8 x),es:=1,ep:=0 },{ cs:=ys.map λx=>.t (.int .u8 x),es:=1,ep:=0 }])
  {W:World} {cargs:Array Value} (ha:ZN JD W args cargs):Calls Try.prog f cargs W (IsQ n m W):=by
 refine callsIn_wide.1 (CallsIn.mono (h.2 JD W cargs (λg c x h=>by cases h) (jO W) ha) λe w' ⟨v',S',I',cv,he,⟨h1,h2⟩,h3,h4,h5⟩=> ?_);subst h1;subst h2;obtain⟨arr,rfl,e1,e2⟩:=h3;obtain⟨u0,q0,p0⟩:=e2 0 (by simp);obtain⟨u1,q1,p1⟩:=e2 1 (by simp);obtain⟨ar2,rfl,f1,f2⟩:=p0;obtain⟨y0,r0,t0⟩:=f2 0 (by simp);obtain⟨y1,r1,t1⟩:=f2 1 (by simp);obtain⟨b,s,k,cs,t,x,rfl,k1,k2,k3⟩:=obj_lies h4 h5 rfl hx t0;obtain⟨b',s',k',cs',t',x',rfl,k1',k2',k3'⟩:=obj_lies h4 h5 rfl hy t1;have p1:TR I'.un w' (.int .i64 0) u1:=p1;cases p1;have ea:ar2= #[.slice (some ⟨b,s,none⟩) n k,.slice (some ⟨b',s',none⟩) m k']:=by
  refine Array.ext (by simpa using f1) λi hi _=> ?_;have hi:i<2:=by simpa [f1] using hi
  match i,hi with
  |0,_=>exact(Array.getElem?_eq_some_iff.1 r0).2
  |1,_=>exact(Array.getElem?_eq_some_iff.1 r1).2
 have eb:arr= #[.agg ar2,.int .i64 0]:=by
  refine Array.ext (by simpa using e1) λi hi _=> ?_;have hi:i<2:=by simpa [e1] using hi
  match i,hi with
  |0,_=>exact(Array.getElem?_eq_some_iff.1 q0).2
  |1,_=>exact(Array.getElem?_eq_some_iff.1 q1).2
 rw[ea]at eb;exact⟨b,s,k,b',s',k',cs,t,cs',t',x,x',by rw[he,eb],⟨h5.os,h5.out,h5.size,λb hb=>h5.frame b hb (Uj b)⟩,k1,k2,k3,k1',k2',k3'⟩
theorem m13q_fn:Jl Try.prog 13 [.agg [.t (byT [0,2]),.t (byT [1])],.agg [.t (byT [0,2]),.t (byT [1])]] [] λv τ=>v=.tup [.inr [.sl ⟨0,0,0⟩ 2 (some 2),.sl ⟨1,0,0⟩ 1 (some 1)],.inl (.t (.int .i64 0))]/\τ=[{ cs:=[0,2].map λx=>.t (.int .u8 x),es:=1,ep:=0 },{ cs:=[1].map λx=>.t (.int .u8 x),es:=1,ep:=0 }]:=
 M13q.known.ok ⟨[0,2],[1],[0,2],[1]⟩ _ m13q_v
theorem m19q_fn:Jl Try.prog 19 [.agg [.t (byT [0,2]),.t (byT [1])],.c (.t (.int .u8 1))] [] λv τ=>v=.tup [.inr [.sl ⟨0,0,0⟩ 2 (some 2),.sl ⟨1,0,0⟩ 1 (some 1)],.inl (.t (.int .i64 0))]/\τ=[{ cs:=[0,1].map λx=>.t (.int .u8 x),es:=1,ep:=0 },{ cs:=[1].map λx=>.t (.int .u8 x),es:=1,ep:=0 }]:=
 M19q.known.ok ⟨[0,2],[1],1⟩ _ m19q_v
variable {U U':Nat->Prop}{W:World}{i s:List Int}{x y:Value}
theorem c13(hi:TR U W (byT [0,2]) x)(hs:TR U' W (byT [1]) y):Calls Try.prog 13 #[.agg #[x,y],.agg #[x,y]] W (IsQ 2 1 W):=
 calls_q (by simp) (by simp) m13q_fn (jz (KO hi hs) (KO hi hs))
theorem c19(hi:TR U W (byT [0,2]) x)(hs:TR U' W (byT [1]) y):Calls Try.prog 19 #[.agg #[x,y],.int .u8 1] W (IsQ 2 1 W):=
 calls_q (by simp) (by simp) m19q_fn (jz (KO hi hs) (TR.int _ _))
theorem argsR1{a:AV}{v:Value}(h:VR JD W a v):ZN JD W [a] #[v]:=⟨rfl,λj hj=>by
 match j,hj with
 |0,_=>exact⟨_,rfl,h⟩⟩
theorem c29{er:Int}(h:M29.m ⟨i,s⟩=some er)(hi:TR U W (byT i) x)(hs:TR U' W (byT s) y):Calls Try.prog 29 #[.agg #[x,y]] W (IsN .i64 er W):=by have hk:Jl Try.prog 29 [.agg [.t (byT i),.t (byT s)]] [] λv τ=>v=.c (.t (.int .i64 er))/\τ=[]:=M29.known.ok ⟨i,s⟩ er h;refine(Yi hk (argsR1 (KO hi hs))).mono λe w' ⟨⟨I',cv,he,hv⟩,hb⟩=> ?_;have hv:TR I'.un w' (.int .i64 er) cv:=hv;cases hv;exact⟨⟨he,hb⟩⟩
structure IsS(t:ByteArray)(W:World)(e:Ending)(W':World):Prop where
 ex:e=.returned (.string t)/\Bel W.heap.size W W'
theorem c26{t:List UInt8}(h:M26.m ⟨i,s⟩=some t)(hi:TR U W (byT i) x)(hs:TR U' W (byT s) y):Calls Try.prog 26 #[.agg #[x,y]] W (IsS ⟨t.toArray⟩ W):=by have hk:Jl Try.prog 26 [.agg [.t (byT i),.t (byT s)]] [] λv τ=>v=.c (.t (.str t))/\τ=[]:=M26.known.ok ⟨i,s⟩ t h;refine(Yi hk (argsR1 (KO hi hs))).mono λe w' ⟨⟨I',cv,he,hv⟩,hb⟩=> ?_;have hv:TR I'.un w' (.str t) cv:=hv;cases hv;exact⟨⟨he,hb⟩⟩
structure IsP(er:Int)(W:World)(e:Ending)(W':World):Prop where
 ex:(∃a n k a' n' k',e=.returned (.tuple #[.agg #[.slice a n k,.slice a' n' k'],.int .i64 er]))/\Bel W.heap.size W W'
theorem c27{t:List UInt8}{p:List Int×List Int}{er:Int}(h:M27.m ⟨t⟩=some (p.1,p.2,er)):Calls Try.prog 27 #[.string ⟨t.toArray⟩] W (IsP er W):=by
 have hk:Jl Try.prog 27 [.c (.t (.str t))] [] λv τ=>v=.tup [.inr [.t (byT p.1),.t (byT p.2)],.inl (.t (.int .i64 er))]/\τ=[]:=M27.known.ok ⟨t⟩ (p.1,p.2,er) h;refine(Yi hk (argsR1 (TR.str _))).mono λe w' ⟨⟨I',cv,he,hv⟩,hb⟩=> ?_;obtain⟨arr,rfl,e1,e2⟩:=hv;obtain⟨u0,q0,p0⟩:=e2 0 (by simp);obtain⟨u1,q1,p1⟩:=e2 1 (by simp);obtain⟨ar2,rfl,f1,f2⟩:=p0;obtain⟨y0,r0,t0⟩:=f2 0 (by simp);obtain⟨y1,r1,t1⟩:=f2 1 (by simp);obtain⟨a,k,rfl⟩:=imm_out t0;obtain⟨a',k',rfl⟩:=imm_out t1;have p1:TR I'.un w' (.int .i64 er) u1:=p1;cases p1;have ea:ar2= #[.slice a p.1.length k,.slice a' p.2.length k']:=by
  refine Array.ext (by simpa using f1) λi hi _=> ?_;have hi:i<2:=by simpa [f1] using hi
  match i,hi with
  |0,_=>exact(Array.getElem?_eq_some_iff.1 r0).2
  |1,_=>exact(Array.getElem?_eq_some_iff.1 r1).2
 have eb:arr= #[.agg ar2,.int .i64 er]:=by
  refine Array.ext (by simpa using e1) λi hi _=> ?_;have hi:i<2:=by simpa [e1] using hi
  match i,hi with
  |0,_=>exact(Array.getElem?_eq_some_iff.1 q0).2
  |1,_=>exact(Array.getElem?_eq_some_iff.1 q1).2
 rw[ea]at eb;exact⟨⟨a,_,k,a',_,k',by rw[he,eb]⟩,hb⟩
theorem c10:Calls Try.prog 10 #[] W (IsB true W):=
 YM (M10.known.ok () true Jo) ⟨rfl,λi hi=>(Nat.not_lt_zero i hi).elim⟩
theorem c27'{b:ByteArray}{t:List UInt8}{p:List Int×List Int}{er:Int}(hb:b=⟨t.toArray⟩)(h:M27.m ⟨t⟩=some (p.1,p.2,er)):Calls Try.prog 27 #[.string b] W (IsP er W):=by rw[hb];exact c27 h
end
section
open Go.Abs Go.RowKit
def zs(n:Nat):List Int:=List.replicate n 0
def zz(n:Nat):Array Value:=madeCells (Value.int .u8 0).cells (n*1)
theorem zz_eq(n:Nat):zz n=((zs n).map (Value.int .u8)).toArray:=by refine Array.ext (by simp[zz,size_madeCells,zs]) λi h1 h2=> ?_;simp[zz,madeCells,zs,Value.cells];rw[Nat.mod_one];rfl
theorem info42:(Try.prog.info? 42).map (λi=>(i.zero,i.size,i.bytes))=some (some (.int .u8 0),1,1):=by kernel_rfl
theorem mkn(n:Nat)(hn:n<=16384)(W:World):Sem.run Try.prog (Instr.makeSlice 27 (.int .i64 (n:Int)) (.int .i64 (n:Int))) W=.ok (.slice (some ⟨W.heap.size,0,none⟩) n n) (W.alloc (.cells (zz n) 42)):=by obtain⟨i1,hj,hy0,hy1,hy2⟩:=info_parts info42;have h:=run_make (P:=Try.prog) W 27 42 i1 (.int .u8 0) Try.underlying27 hj hy0 .i64 .i64 n n (by omega) (Int.le_refl _) (by rw[hy2];omega) (by omega);rw[hy1]at h;exact h
theorem mk16(W:World):Sem.run Try.prog (Instr.makeSlice 27 (.int .i64 16384) (.int .i64 16384)) W=.ok (.slice (some ⟨W.heap.size,0,none⟩) 16384 16384) (W.alloc (.cells (zz 16384) 42)):=mkn 16384 (by decide) W
theorem mk1(W:World):Sem.run Try.prog (Instr.makeSlice 27 (.int .i64 1) (.int .i64 1)) W=.ok (.slice (some ⟨W.heap.size,0,none⟩) 1 1) (W.alloc (.cells (zz 1) 42)):=mkn 1 (by decide) W
theorem XU{W:World}{b e n:Nat}{l:List Int}(h:W.heap[b]? =some (.cells (l.map (Value.int .u8)).toArray e (0,0)))(hn:l.length=n)(hx:n<=20000):TR (λ_=>True) W (byT l) (.slice (some ⟨b,0,none⟩) n n):=by have ho:W.ownsRow 0 e 1 (.slice (some ⟨b,0,none⟩) n n) n (l.map (Value.int .u8)):=⟨by simp[hn],.inr ⟨b,n,_,rfl,Nat.zero_le _,h,Nat.le_refl _,by first|(simp[hn];done)|(unfold maxLen;omega),by first|(simp[hn];done)|(unfold maxLen;omega),by simp[List.take_of_length_le,hn]⟩⟩;have:=jI ho hn (Nat.le_refl n);rwa [List.take_of_length_le (by omega)]at this
open Cu
theorem VM{l:List Int}(h:l.all (λx=>decide (x=0)||decide (x=1)||decide (x=2))=true):Vs l:=by intro x hx;have:=List.all_eq_true.1 h x hx;simp at this;unfold Va;omega
theorem vs_zs(n:Nat):Vs (zs n):=λx hx=>by have:=List.eq_of_mem_replicate hx;unfold Va;omega
theorem ZO(n:Nat):(zs n).length=n:=List.length_replicate
theorem h30a:∃R,R.length=4096/\M30.m ⟨[2,2,2,2,2,2],[2,2,2,2,2,2,1]⟩=some (R,0):=by
 have h1:Vs [2,2,2,2,2,2]:=VM (by decide);have h2:Vs [2,2,2,2,2,2,1]:=VM (by decide);have e:opn [2,2,2,2,2,2]+opn [2,2,2,2,2,2,1]=12:=by decide
 have:=m30b h1 h2 (by decide) (by omega);rw[e]at this;exact⟨_,by simp,this⟩
theorem h30b:M30.m ⟨[2,2,2,2,2,2],[2,2,2,2,2,2,2]⟩=some ([],3):=by
 have h1:Vs [2,2,2,2,2,2]:=VM (by decide);have h2:Vs [2,2,2,2,2,2,2]:=VM (by decide);have e:opn [2,2,2,2,2,2]+opn [2,2,2,2,2,2,2]=13:=by decide
 exact m30c h1 h2 (by decide) (by omega)
theorem h29a:M29.m ⟨zs 16384,zs 1⟩=some 3:=by
 rw[m29 (by simp[ZO]) (by simp[ZO])];have:chk (zs 16384) (zs 1)=3:=by unfold chk;simp[ZO]
 rw[this]
theorem h29b:M29.m ⟨[],zs 16384⟩=some 0:=by rw[m29 (by simp) (by simp[ZO]),qP (λx hx=>by cases hx) (vs_zs _) (by simp[ZO])]
theorem h26:M26.m ⟨[],zs 16384⟩=some (Qq []++124::Qq (zs 16384)):=m26_V (λx hx=>by cases hx) (vs_zs _) (by simp[ZO])
theorem h27a:M27.m ⟨Qq []++124::Qq (zs 16384)⟩=some ([],zs 16384,0):=Um (λx hx=>by cases hx) (vs_zs _) (by simp[ZO])
theorem h27b:M27.m ⟨(Qq []++124::Qq (zs 16384))++[48]⟩=some ([],[],3):=by
 have hl:((Qq []++124::Qq (zs 16384))++[48]).length=16386:=by simp[Qq,ZO]
 unfold M27.m;rw[hl];simp
theorem h26p:M26.m ⟨[0,2],[1]⟩=some [48,88,124,49]:=m26_V (VM (by decide)) (VM (by decide)) (by decide)
variable {W W':World}{b i e:Nat}{o o':Obj}{a:Addr}{u:Value}{cs:Array Value}
theorem bk(h:W.heap[b]? =some o)(hb:Bel W.heap.size W W'):W'.heap[b]? =some o:=(hb.block _ (Array.getElem?_eq_some_iff.1 h).1).trans h
theorem ak(o':Obj)(h:W.heap[b]? =some o):(W.alloc o').heap[b]? =some o:=(Below.heap_alloc _ _ _ (Array.getElem?_eq_some_iff.1 h).1).trans h
theorem sk(h:W.heap[b]? =some o)(hn:b≠a.block):(W.setCell a u).heap[b]? =some o:=(Below.heap_setCell _ _ _ b hn).trans h
theorem ck(h:W.heap[b]? =some (.cells cs e (0,0)))(hi:cs[i]? =some u):W.cell? ⟨b,i,none⟩=some u:=by simp only[World.cell?,h];exact hi
theorem fk(h:W.heap[b]? =some (.cells cs e (0,0))):W.frozen? ⟨b,i,none⟩=false:=by simp[World.frozen?,h]
theorem lk(h:W.heap[b]? =some o):b<W.heap.size:=(Array.getElem?_eq_some_iff.1 h).1
structure Lw(bl z1 z2 z3:Nat)(w W:World)(Z Z1:Array Value):Prop where
 g1:W.heap[bl]? =some (.cells #[.slice (some ⟨z1,0,none⟩) 16384 16384,.slice (some ⟨z2,0,none⟩) 1 1] 29 (0,0))
 g2:W.heap[z1]? =some (.cells Z 42 (0,0))
 g3:W.heap[z2]? =some (.cells Z1 42 (0,0))
 g4:W.heap[z3]? =some (.cells Z 42 (0,0))
 g5:W.heap[z3+1]? =some (.cells #[.slice none 0 0,.slice (some ⟨z3,0,none⟩) 16384 16384] 29 (0,0))
 fr:Fr (· <w.heap.size) w W
variable {bl z1 z2 z3:Nat}{w:World}{Z Z1:Array Value}
theorem Lw.bel(h:Lw bl z1 z2 z3 w W Z Z1)(hb:Bel W.heap.size W W'):Lw bl z1 z2 z3 w W' Z Z1:=
 ⟨bk h.g1 hb,bk h.g2 hb,bk h.g3 hb,bk h.g4 hb,bk h.g5 hb,h.fr.trans (hb.fr.imp λb _ hb=>by have:=h.fr.size;omega)⟩
theorem Lw.alloc(h:Lw bl z1 z2 z3 w W Z Z1)(o:Obj):Lw bl z1 z2 z3 w (W.alloc o) Z Z1:=
 ⟨ak o h.g1,ak o h.g2,ak o h.g3,ak o h.g4,ak o h.g5,h.fr.trans (Fr.alloc _ _ _)⟩
theorem Lw.cells(h:Lw bl z1 z2 z3 w W Z Z1):W.cell? ⟨bl,0,none⟩=some (.slice (some ⟨z1,0,none⟩) 16384 16384)/\W.cell? ⟨bl,1,none⟩=some (.slice (some ⟨z2,0,none⟩) 1 1)/\W.cell? ⟨z3+1,0,none⟩=some (.slice none 0 0)/\W.cell? ⟨z3+1,1,none⟩=some (.slice (some ⟨z3,0,none⟩) 16384 16384):=
 ⟨ck h.g1 rfl,ck h.g1 rfl,ck h.g5 rfl,ck h.g5 rfl⟩
theorem Lw.long(h:Lw bl z1 z2 z3 w W Z Z1)(hZ:Z=zz 16384)(hZ1:Z1=zz 1):Calls Try.prog 29 #[.agg #[.slice (some ⟨z1,0,none⟩) 16384 16384,.slice (some ⟨z2,0,none⟩) 1 1]] W (IsN .i64 3 W):=by have g2:=h.g2;have g3:=h.g3;rw[hZ,zz_eq]at g2;rw[hZ1,zz_eq]at g3;exact c29 h29a (XU g2 (ZO _) (by decide)) (XU g3 (ZO _) (by decide))
theorem Lw.wide(h:Lw bl z1 z2 z3 w W Z Z1)(hZ:Z=zz 16384):Calls Try.prog 29 #[.agg #[.slice none 0 0,.slice (some ⟨z3,0,none⟩) 16384 16384]] W (IsN .i64 0 W):=by have g4:=h.g4;rw[hZ,zz_eq]at g4;exact c29 (U:=λ_=>True) h29b (TR.imm0 none none 0 trivial) (XU g4 (ZO _) (by decide))
theorem wide_list:∃t:List UInt8,M26.m ⟨[],zs 16384⟩=some t/\M27.m ⟨t⟩=some ([],zs 16384,0)/\M27.m ⟨t++[48]⟩=some ([],[],3)/\t.length=16385:=⟨_,h26,h27a,h27b,by simp[Qq,ZO]⟩
theorem wide_ex:∃ws:ByteArray,(∀(bl z1 z2 z3:Nat) (w W:World) (Z Z1:Array Value),Lw bl z1 z2 z3 w W Z Z1->Z=zz 16384->Calls Try.prog 26 #[.agg #[.slice none 0 0,.slice (some ⟨z3,0,none⟩) 16384 16384]] W (IsS ws W))/\
  (∀W,Calls Try.prog 27 #[.string ws] W (IsP 0 W))/\(∀W,Calls Try.prog 27 #[.string (ws++⟨#[48]⟩)] W (IsP 3 W))/\¬9223372036854775807<ws.size+1:=by
 obtain⟨t,h1,h2,h3,h4⟩:=wide_list;refine⟨⟨t.toArray⟩,λbl z1 z2 z3 w W Z Z1 h hZ=> ?_,λW=>c27 (p:=([],zs 16384)) h2,λW=>c27' (t:=t++[48]) (p:=([],[])) (by simp[ByteArray.ext_iff]) h3,by show¬9223372036854775807<t.toArray.size+1;simp;omega⟩;have g4:=h.g4;rw[hZ,zz_eq]at g4;exact c26 (U:=λ_=>True) h1 (TR.imm0 none none 0 trivial) (XU g4 (ZO _) (by decide))
end
