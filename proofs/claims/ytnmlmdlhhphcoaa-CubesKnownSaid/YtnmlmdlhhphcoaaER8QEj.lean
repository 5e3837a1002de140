/- A part of the proof. -/
import Derived.Test.YtnmlmdlhhphcoaaER8QSyP
import Derived.Test.YtnmlmdlhhphcoaaER8QE9
import Derived.Shelf.Spec.SlicesGrow
import Derived.Shelf.Strings.Builder1
import Derived.Shelf.Small.Strs
import Derived.Shelf.Strings.Search1
import Derived.Shelf.Strings.Search2
import Derived.Shelf.Strings.Cut
import Derived.Test.YtnmlmdlhhphcoaaProg
import Derived.Lib.IndexBytes
import Derived.Lib.CutLaws
import Derived.WalkSmall
set_option linter.all false
set_option maxRecDepth 100000
set_option maxHeartbeats 2000000
noncomputable section
namespace Go.Proofs.Ytnmlmdlhhphcoaa
open Go.Proofs
open Go.Shelf
def Try.qF:Go.Shelf.Ren:=⟨fun|167=>45|240=>52|276=>56|n=>n,fun|70=>81|9=>9|0=>0|72=>83|37=>22|20=>20|75=>85|80=>87|164=>97|3=>3|4=>4|5=>5|n=>n,fun|n=>n⟩
theorem Try.lays167:Go.Proofs.Lays.n167 Try.prog Try.qF:={
 mixed:=by kernel_rfl
 f167:=Try.func45.trans (congrArg some (by kernel_rfl))
 f240:=Try.func52.trans (congrArg some (by kernel_rfl))
 f276:=Try.func56.trans (congrArg some (by kernel_rfl))
 t0:=Try.underlying0
 a0:=Try.isAgg0
 z0:=Try.sizeOf0
 v0:=Try.zeroValue0
 t4:=Try.underlying4
 a4:=Try.isAgg4
 z4:=Try.sizeOf4
 v4:=Try.zeroValue4
 t5:=Try.underlying5
 a5:=Try.isAgg5
 z5:=Try.sizeOf5
 v5:=Try.zeroValue5
 t9:=Try.underlying9
 a9:=Try.isAgg9
 z9:=Try.sizeOf9
 v9:=Try.zeroValue9
 t20:=Try.underlying20
 a20:=Try.isAgg20
 z20:=Try.sizeOf20
 v20:=Try.zeroValue20
 t37:=Try.underlying22
 a37:=Try.isAgg22
 z37:=Try.sizeOf22
 v37:=Try.zeroValue22
 t70:=Try.underlying81
 a70:=Try.isAgg81
 z70:=Try.sizeOf81
 v70:=Try.zeroValue81
 t72:=Try.underlying83
 a72:=Try.isAgg83
 z72:=Try.sizeOf83
 v72:=Try.zeroValue83
 t75:=Try.underlying85
 a75:=Try.isAgg85
 z75:=Try.sizeOf85
 v75:=Try.zeroValue85
 t164:=Try.underlying97
 a164:=Try.isAgg97
 z164:=Try.sizeOf97
 v164:=Try.zeroValue97 }
theorem Try.VL:Builder.Extra Try.prog Try.qF:={
 sizeBuilder:=by kernel_rfl
 liesBuilder:=by kernel_rfl
 t5:=Try.underlying5
 a5:=Try.isAgg5
 z5:=Try.sizeOf5
 v5:=Try.zeroValue5
 infoByte:=by kernel_rfl
 cellsByte:=by kernel_rfl
 sizeByte:=by kernel_rfl
 neB5:=by decide }
def Try.qE:Go.Shelf.Ren:=⟨fun|169=>46|n=>n,fun|70=>81|9=>9|0=>0|72=>83|37=>22|127=>94|3=>3|5=>5|n=>n,fun|n=>n⟩
theorem Try.lays169:Go.Proofs.Lays.n169 Try.prog Try.qE:={
 mixed:=by kernel_rfl
 f169:=Try.func46.trans (congrArg some (by kernel_rfl))
 t0:=Try.underlying0
 a0:=Try.isAgg0
 z0:=Try.sizeOf0
 v0:=Try.zeroValue0
 t3:=Try.underlying3
 a3:=Try.isAgg3
 z3:=Try.sizeOf3
 v3:=Try.zeroValue3
 t9:=Try.underlying9
 a9:=Try.isAgg9
 z9:=Try.sizeOf9
 v9:=Try.zeroValue9
 t37:=Try.underlying22
 a37:=Try.isAgg22
 z37:=Try.sizeOf22
 v37:=Try.zeroValue22
 t70:=Try.underlying81
 a70:=Try.isAgg81
 z70:=Try.sizeOf81
 v70:=Try.zeroValue81
 t72:=Try.underlying83
 a72:=Try.isAgg83
 z72:=Try.sizeOf83
 v72:=Try.zeroValue83
 t127:=Try.underlying94
 a127:=Try.isAgg94
 z127:=Try.sizeOf94
 v127:=Try.zeroValue94 }
theorem Try.VK:Builder.Extra Try.prog Try.qE:={
 sizeBuilder:=by kernel_rfl
 liesBuilder:=by kernel_rfl
 t5:=Try.underlying5
 a5:=Try.isAgg5
 z5:=Try.sizeOf5
 v5:=Try.zeroValue5
 infoByte:=by kernel_rfl
 cellsByte:=by kernel_rfl
 sizeByte:=by kernel_rfl
 neB5:=by decide }
def Try.lays137_ren:Go.Shelf.Ren:=⟨fun|137=>48|217=>54|266=>58|n=>n,fun|9=>9|5=>5|3=>3|n=>n,fun|n=>n⟩
theorem Try.lays137:Go.Proofs.Lays.n137 Try.prog Try.lays137_ren:={
 mixed:=by kernel_rfl
 f137:=Try.func48.trans (congrArg some (by kernel_rfl))
 f217:=Try.func54.trans (congrArg some (by kernel_rfl))
 f266:=Try.func58.trans (congrArg some (by kernel_rfl))
 t3:=Try.underlying3
 a3:=Try.isAgg3
 z3:=Try.sizeOf3
 v3:=Try.zeroValue3
 t5:=Try.underlying5
 a5:=Try.isAgg5
 z5:=Try.sizeOf5
 v5:=Try.zeroValue5
 t9:=Try.underlying9
 a9:=Try.isAgg9
 z9:=Try.sizeOf9
 v9:=Try.zeroValue9 }
def Try.lays220_ren:Go.Shelf.Ren:=⟨fun|220=>53|219=>57|217=>54|225=>59|224=>60|267=>61|266=>58|314=>62|n=>n,fun|9=>9|4=>4|3=>3|5=>5|46=>101|146=>103|51=>102|n=>n,fun|1=>0|n=>n⟩
theorem Try.lays220:Go.Proofs.Lays.n220 Try.prog Try.lays220_ren:={
 mixed:=by kernel_rfl
 f217:=Try.func54.trans (congrArg some (by kernel_rfl))
 f219:=Try.func57.trans (congrArg some (by kernel_rfl))
 f220:=Try.func53.trans (congrArg some (by kernel_rfl))
 f224:=Try.func60.trans (congrArg some (by kernel_rfl))
 f225:=Try.func59.trans (congrArg some (by kernel_rfl))
 f266:=Try.func58.trans (congrArg some (by kernel_rfl))
 f267:=Try.func61.trans (congrArg some (by kernel_rfl))
 f314:=Try.func62.trans (congrArg some (by kernel_rfl))
 t3:=Try.underlying3
 a3:=Try.isAgg3
 z3:=Try.sizeOf3
 v3:=Try.zeroValue3
 t4:=Try.underlying4
 a4:=Try.isAgg4
 z4:=Try.sizeOf4
 v4:=Try.zeroValue4
 t5:=Try.underlying5
 a5:=Try.isAgg5
 z5:=Try.sizeOf5
 v5:=Try.zeroValue5
 t9:=Try.underlying9
 a9:=Try.isAgg9
 z9:=Try.sizeOf9
 v9:=Try.zeroValue9
 t46:=Try.underlying101
 a46:=Try.isAgg101
 z46:=Try.sizeOf101
 v46:=Try.zeroValue101
 t51:=Try.underlying102
 a51:=Try.isAgg102
 z51:=Try.sizeOf102
 v51:=Try.zeroValue102
 t146:=Try.underlying103
 a146:=Try.isAgg103
 z146:=Try.sizeOf103
 v146:=Try.zeroValue103
 g1:=by kernel_rfl }
def Try.growV_ren:Go.Shelf.Ren:=⟨fun|4=>55|n=>n,fun|22=>27|25=>42|3=>3|4=>4|9=>9|20=>20|0=>0|n=>n,fun|n=>n⟩
theorem Try.growV:Go.Proofs.Lays8.n4 Try.prog Try.growV_ren:={
 mixed:=by kernel_rfl
 f4:=⟨Try.f55.name,by decide,Try.func55.trans (congrArg some (by kernel_rfl))⟩
 t0:=Try.underlying0
 a0:=Try.isAgg0
 z0:=Try.sizeOf0
 v0:=Try.zeroValue0
 t3:=Try.underlying3
 a3:=Try.isAgg3
 z3:=Try.sizeOf3
 v3:=Try.zeroValue3
 t4:=Try.underlying4
 a4:=Try.isAgg4
 z4:=Try.sizeOf4
 v4:=Try.zeroValue4
 t9:=Try.underlying9
 a9:=Try.isAgg9
 z9:=Try.sizeOf9
 v9:=Try.zeroValue9
 t20:=Try.underlying20
 a20:=Try.isAgg20
 z20:=Try.sizeOf20
 v20:=Try.zeroValue20
 t22:=Try.underlying27
 a22:=Try.isAgg27
 z22:=Try.sizeOf27
 v22:=Try.zeroValue27 }
end Go.Proofs.Ytnmlmdlhhphcoaa
namespace Go.Proofs
open Go.Shelf Go.RowKit Go.Lib
variable {P:Program}{ρ:Ren}
theorem cut_one(L:Lays.n220 P ρ)(s:ByteArray)(c:UInt8)(w:World)(hs:s.size<4294967281):
  Calls P (ρ.f 220) #[.string s,.string ⟨#[c]⟩] w λe w'=>e=.returned (.tuple #[.string ⟨(Lib.cut s.data.toList [c]).1.toArray⟩,.string ⟨(Lib.cut s.data.toList [c]).2.1.toArray⟩,.bool (Lib.cut s.data.toList [c]).2.2])/\∃n,w'=w.drewN n:=by
 have hone:Lib.indexByte s.data.toList c=Lib.indexB s ⟨#[c]⟩:=(Lib.index_one _ _).symm;rcases Lib.indexB_cases s ⟨#[c]⟩ with hix|⟨i,hix,hroom⟩
 ·obtain⟨e1,e2,e3⟩:=Lib.cutB_miss s ⟨#[c]⟩ hix;have e1:(⟨(Lib.cut s.data.toList [c]).1.toArray⟩:ByteArray)=s:=e1;have e2:(⟨(Lib.cut s.data.toList [c]).2.1.toArray⟩:ByteArray)=ByteArray.empty:=e2;have e3:(Lib.cut s.data.toList [c]).2.2=false:=e3;rw[e1,e2,e3];have t3:=L.t3;have t4:=L.t4;have t9:=L.t9;have a3:∀w,(isAgg (ρ.t 3)).run P w=.ok false w:=run_isAgg_plain L.t3 rfl;have a4:∀w,(isAgg (ρ.t 4)).run P w=.ok false w:=run_isAgg_plain L.t4 rfl;have a9:∀w,(isAgg (ρ.t 9)).run P w=.ok false w:=run_isAgg_plain L.t9 rfl;have e219:∀args w,(callFunc (ρ.f 219) args).run P w=.ok (.enter (ρ.f 219) args) w:=enters_of L.f219 (by kernel_rfl) rfl;have mixed:=L.mixed;have z3:=L.z3;have v3:=L.v3;have z4:=L.z4;have v4:=L.v4;have z9:=L.z9;have v9:=L.v9
  go_enter L.f220,Body.n220_ntmps ρ
  go_wp2_with (go_at_fn (ρ.f 219);refine(Any.stringslite_Index_one { L with } _ _ _).mono ?_;rintro e w' ⟨rfl,rfl⟩;rw[show Lib.indexByte s.data.toList c=_ from hone.trans hix])
  go_ret3
  exact⟨rfl,0,rfl⟩
 ·obtain⟨e1,e2,e3⟩:=Lib.cutB_hit s ⟨#[c]⟩ i hix;have e1:(⟨(Lib.cut s.data.toList [c]).1.toArray⟩:ByteArray)=s.extract 0 i:=e1;have e2:(⟨(Lib.cut s.data.toList [c]).2.1.toArray⟩:ByteArray)=s.extract (i+(⟨#[c]⟩:ByteArray).size) s.size:=e2;have e3:(Lib.cut s.data.toList [c]).2.2=true:=e3;rw[e1,e2,e3];have c1:(0:Int)<=↑i:=(by omega);have c2:(↑i:Int)<=↑s.size:=(by omega);have c3:(0:Int)<=↑i+↑(⟨#[c]⟩:ByteArray).size:=(by omega);have c4:(↑i+↑(⟨#[c]⟩:ByteArray).size:Int)<=↑s.size:=(by omega);have t3:=L.t3;have t4:=L.t4;have t9:=L.t9;have a3:∀w,(isAgg (ρ.t 3)).run P w=.ok false w:=run_isAgg_plain L.t3 rfl;have a4:∀w,(isAgg (ρ.t 4)).run P w=.ok false w:=run_isAgg_plain L.t4 rfl;have a9:∀w,(isAgg (ρ.t 9)).run P w=.ok false w:=run_isAgg_plain L.t9 rfl;have e219:∀args w,(callFunc (ρ.f 219) args).run P w=.ok (.enter (ρ.f 219) args) w:=enters_of L.f219 (by kernel_rfl) rfl;have mixed:=L.mixed;have z3:=L.z3;have v3:=L.v3;have z4:=L.z4;have v4:=L.v4;have z9:=L.z9;have v9:=L.v9;have HI:∀w,Calls P (ρ.f 219) #[.string s,.string ⟨#[c]⟩] w λe w'=>e=.returned (.int .i64 i)/\w'=w:=λw=>(Any.stringslite_Index_one { L with } s c w).mono λe w' ⟨h1,h2⟩=>⟨by rw[h1,hone,hix],h2⟩;generalize (⟨#[c]⟩:ByteArray)=sep at*
  go_enter L.f220,Body.n220_ntmps ρ
  go_wp2_with (go_at_fn (ρ.f 219);refine(HI _).mono ?_;rintro e w' ⟨rfl,rfl⟩)
  go_region_o
  go_wp2
  go_ret3
  exact⟨rfl,1,rfl⟩
end Go.Proofs
namespace Go.Proofs.Ytnmlmdlhhphcoaa
open Go.Abs Go.RowKit
theorem args2{M:Map}{w:World}{x y:AV}{cargs:Array Value}(ha:ZN M w [x,y] cargs):∃u v,cargs= #[u,v]/\VR M w x u/\VR M w y v:=by
 obtain⟨hsz,ha⟩:=ha;obtain⟨u0,e0,h0⟩:=ha 0 (by simp);obtain⟨u1,e1,h1⟩:=ha 1 (by simp);refine⟨u0,u1,?_,h0,h1⟩;refine Array.ext (by simpa using hsz) λi hi _=> ?_;have hi:i<2:=by simpa [hsz] using hi
 match i,hi with
 |0,_=>exact(Array.getElem?_eq_some_iff.1 e0).2
 |1,_=>exact(Array.getElem?_eq_some_iff.1 e1).2
namespace M48
structure gX where(s:List UInt8)(c:Int)
def g:Sg gX:=⟨[.c .sg,.c (.it .u8)],[],λa b=>⟨a.1,a.2.1⟩,λx=>(x.s,(x.c,())),λx=>()⟩
abbrev fY:=Int
def f:Ft fY:=⟨none,.c (.it .i64),[],λa b=>a,λy=>y,λy=>()⟩
def m(x:gX):Option fY:=some (Lib.indexByte x.s x.c.toNat.toUInt8)
theorem callable48:Xr Try.prog 48:=⟨Try.f48,Try.func48,by kernel_rfl,by kernel_rfl⟩
theorem known:QV Try.prog 48 g f m:=by refine⟨λ_ _=>⟨rfl,rfl⟩,by decide,λx y hy=> ?_⟩;cases hy;show Jl Try.prog 48 [.c (.t (.str x.s)),.c (.t (.int .u8 x.c))] [] λv τ=>v=.c (.t (.int .i64 (Lib.indexByte x.s x.c.toNat.toUInt8)))/\τ=[];refine fn_ext callable48 λM w cargs hH ha=> ?_;obtain⟨u0,u1,rfl,h0,h1⟩:=args2 ha;have h0:TR M.un w (.str x.s) u0:=h0;have h1:TR M.un w (.int .u8 x.c) u1:=h1;cases h0;cases h1;refine⟨_,λ_=>.int _ _,?_⟩;have h:=Any.strings_IndexByte Try.lays137 ⟨x.s.toArray⟩ x.c w;refine Calls.mono h λe w' ⟨he,hw⟩=>⟨?_,hw▸Below.refl _ _⟩;rw[he]
def con:Con:=conF g f m default
theorem Q5:Qk Try.prog 48 con:=conF_ok known (λ_=>rfl) (λ_=>rfl)
end M48
namespace M53
structure gX where(s sep:List UInt8)
def g:Sg gX:=⟨[.c .sg,.c .sg],[],λa b=>⟨a.1,a.2.1⟩,λx=>(x.s,(x.sep,())),λx=>()⟩
abbrev fY:=(List UInt8)×(List UInt8)×Bool
def f:Ft fY:=⟨none,.tup [.inl .sg,.inl .sg,.inl .bo],[],λa b=>(a.1,a.2.1,a.2.2.1),λy=>(y.1,(y.2.1,(y.2.2,()))),λy=>()⟩
def m(x:gX):Option fY:=match x.sep with|[c]=>bif Nat.ble x.s.length 1000000000 then some (Lib.cut x.s [c]) else none|_=>none
theorem callable53:Xr Try.prog 53:=⟨Try.f53,Try.func53,by kernel_rfl,by kernel_rfl⟩
theorem known:QV Try.prog 53 g f m:=by
 refine⟨λ_ _=>⟨rfl,rfl⟩,by decide,λx y hy=> ?_⟩;obtain⟨s,sep⟩:=x;unfold m at hy;split at hy
 ·rename_i c hsep;have hsep:sep=[c]:=hsep;subst hsep
  cases hb:Nat.ble s.length 1000000000 with
  |false=>simp only[hb,cond_false]at hy;cases hy
  |true=>
   have hb':=Nat.le_of_ble_eq_true hb;simp only[hb,cond_true,Option.some.injEq]at hy;subst hy;show Jl Try.prog 53 [.c (.t (.str s)),.c (.t (.str [c]))] [] λv τ=>v=.tup [.inl (.t (.str (Lib.cut s [c]).1)),.inl (.t (.str (Lib.cut s [c]).2.1)),.inl (.t (.bool (Lib.cut s [c]).2.2))]/\τ=[];refine fn_ext callable53 λM w cargs hH ha=> ?_;obtain⟨u0,u1,rfl,h0,h1⟩:=args2 ha;have h0:TR M.un w (.str s) u0:=h0;have h1:TR M.un w (.str [c]) u1:=h1;cases h0;cases h1;refine⟨.tuple #[.string ⟨(Lib.cut s [c]).1.toArray⟩,.string ⟨(Lib.cut s [c]).2.1.toArray⟩,.bool (Lib.cut s [c]).2.2],λw'=>⟨_,rfl,rfl,λi hi=> ?_⟩,?_⟩
   ·match i,hi with
    |0,_=>exact⟨_,rfl,.str _⟩
    |1,_=>exact⟨_,rfl,.str _⟩
    |2,_=>exact⟨_,rfl,.bool _⟩
   ·have h:=cut_one Try.lays220 ⟨s.toArray⟩ c w (by show s.toArray.size<_;simp;omega);refine Calls.mono h λe w' ⟨he,n,hw⟩=>⟨?_,hw▸below_drewN (Below.refl _ _) n⟩;rw[he]
 ·cases hy
def con:Con:=conF g f m default
theorem Q5:Qk Try.prog 53 con:=conF_ok known (λ_=>rfl) (λ_=>rfl)
end M53
end Go.Proofs.Ytnmlmdlhhphcoaa
namespace Go.Proofs.Ytnmlmdlhhphcoaa
open Go.Abs Go.RowKit
namespace M55
structure gX where(n:Int)
def g:Sg gX:=⟨[.c .nils,.c (.it .i64)],[],λa b=>⟨a.2.1⟩,λx=>((),(x.n,())),λx=>()⟩
abbrev fY:=Nat×Nat×List Int
def f:Ft fY:=⟨none,.c (.sl 0 0 1),[.arr (.int .u8) 0],λa b=>(a.1,a.2,b.1),λy=>(y.1,y.2.1),λy=>(y.2.2,())⟩
def m(x:gX):Option fY:=bif decide (0<=x.n)&&decide (x.n<=1000000000) then some (0,0,[]) else none
theorem callable55:Xr Try.prog 55:=⟨Try.f55,Try.func55,by kernel_rfl,by kernel_rfl⟩
theorem new_obj{M:Map}{w w':World}{s:XK}(hH:HR M [] w)(hb:Below w.heap.size w w')(hes:s.es=1)(hep:s.ep=0)
  (hs:∀l,s.loc=some l->l.blk=w.heap.size/\∃cells elem,w'.heap[l.blk]? =some (.cells cells elem (0,0))/\l.sh+l.tot<=cells.size):
  HR (M.push 0 s) [{ cs:=[],es:=1,ep:=0 }] w'/\Step M [] w (M.push 0 s) [{ cs:=[],es:=1,ep:=0 }] w':=by
 have hn:∀id,M id=none:=hH.empty;have one:∀id s',(M.push 0 s) id=some s'->id=0/\s'=s:=λid s' h=>by
  by_cases e:id=0
  ·subst e;rw[Map.QP]at h;exact⟨rfl,(Option.some.inj h).symm⟩
  ·rw[Map.Qh _ _ e,hn]at h;cases h
 refine⟨⟨λid s' h=> ?_,λid id' s1 s2 l l' h1 h2 _ _ _=> ?_,λb hr=> ?_,λid s' l h1 h2 hr=> ?_⟩,⟨Nat.zero_le _,hb.size,hb.os,hb.output,λid s' h=> ?_,λid h _=> ?_,λid s' l h1 h2=> ?_,rfl,rfl,λb hr=> ?_,λb h _=> ?_⟩⟩
 ·obtain⟨rfl,rfl⟩:=one id s' h;refine⟨_,rfl,hes.symm,hep.symm,?_⟩
  cases hl:s'.loc with
  |none=>rfl
  |some l=>obtain⟨_,cells,elem,h1,h2⟩:=hs l hl;exact⟨⟨cells,elem,h1,h2⟩,Nat.zero_le _,λi hi=>by simp at hi⟩
 ·rw[(one _ _ h1).1,(one _ _ h2).1]
 ·obtain⟨c,e,fr,h2⟩:=hH.resRow b hr;exact⟨c,e,fr,(hb.block b (Array.getElem?_eq_some_iff.1 h2).1).trans h2⟩
 ·obtain⟨rfl,rfl⟩:=one _ _ h1;have:=(hH.resRow _ hr).lt;rw[(hs l h2).1]at this;omega
 ·rw[hn]at h;cases h
 ·simp at h
 ·obtain⟨rfl,rfl⟩:=one _ _ h1;exact .inl (by rw[(hs l h2).1];exact Nat.le_refl _)
 ·exact hb.block b (hH.resRow b hr).lt
 ·exact hb.block b h
theorem alloc_new(w:World)(o:Go.Obj):(w.alloc o).heap[w.heap.size]? =some o:=by show(w.heap.push o)[w.heap.size]? =some o;simp
theorem nil_tree{U:Nat->Prop}{w:World}{v:Value}(h:TR U w (.imm [] 0 (some 0)) v):∃a,v=.slice a 0 0:=by
 cases h with
 |imm0 cap a c hc=>have:c=0:=hc;subst this;exact⟨a,rfl⟩
 |imm cs len cap b off c f _ _ hc=>have:c=0:=hc;subst this;exact⟨_,rfl⟩
theorem known:QV Try.prog 55 g f m:=by
 refine⟨λ_ _=>⟨rfl,rfl⟩,by decide,λx y hy=> ?_⟩;obtain⟨n⟩:=x;unfold m at hy
 cases hb:(decide (0<=n)&&decide (n<=1000000000)) with
 |false=>simp only[hb,cond_false]at hy;cases hy
 |true=>
  simp only[hb,cond_true,Option.some.injEq]at hy;subst hy;simp only[Bool.and_eq_true,decide_eq_true_eq]at hb;obtain⟨k,rfl⟩:∃k:Nat,n=k:=⟨n.toNat,by omega⟩;show Jl Try.prog 55 [.c (.t (.imm [] 0 (some 0))),.c (.t (.int .i64 (k:Int)))] [] λv τ=>v=.c (.sl ⟨0,0,0⟩ 0 none)/\τ=[{ cs:=[],es:=1,ep:=0 }];refine⟨callable55,λM w cargs _ hH ha=> ?_⟩;obtain⟨u0,u1,rfl,h0,h1⟩:=args2 ha;obtain⟨a,rfl⟩:=nil_tree (U:=M.un) (w:=w) h0;have h1:TR M.un w (.int .i64 (k:Int)) u1:=h1;cases h1;by_cases hk:k=0
  ·subst hk;refine CallsIn.mono (callsIn_wide.2 (Any8.slices_Grow_room Try.growV a 0 0 0 w (by omega) (by omega) (by omega) (by omega))) λe w' ⟨he,hw⟩=> ?_;subst hw;obtain⟨h2,h3⟩:=new_obj (s:=⟨none,1,0⟩) hH (Below.refl _ _) rfl rfl (λl h=>by cases h);exact⟨_,_,_,_,he,⟨rfl,rfl⟩,⟨a,0,rfl,.inl rfl,⟨⟨none,1,0⟩,Map.QP _ _ _,Nat.le_refl _,λ_=>⟨Nat.le_refl _,trivial,rfl,rfl,rfl⟩⟩⟩,h2,h3⟩
  ·obtain⟨i0,hi,hz⟩:∃i0,Try.prog.info? 42=some i0/\(i0.zero,i0.size,i0.bytes)=(some (.int .u8 0),1,1):=(by have:(Try.prog.info? 42).map (λi=>(i.zero,i.size,i.bytes))=some (some (.int .u8 0),1,1):=(by kernel_rfl);obtain⟨i0,h2,h3⟩:=Option.map_eq_some_iff.1 this;exact⟨i0,h2,h3⟩);simp only[Prod.mk.injEq]at hz;obtain⟨hz0,hz1,hz2⟩:=hz;refine CallsIn.mono (callsIn_wide.2 (Any8.slices_Grow_grow Try.growV i0 (.int .u8 0) hi hz0 (by omega) a 0 0 k [] w (by omega) (by omega) (by rw[hz2];omega) (by omega) (by simp) (λ_=>rfl) (λ_ _ j v hj=>by simp at hj))) λe w' ⟨he,hw⟩=> ?_;generalize hG:grownCap w (0+k) 0 (Try.growV_ren.t 25)=G at he hw;have hge:0+k<=G:=hG▸grownCap_ge w _ _ _;have hbel:Below w.heap.size w w':=(by rw[hw];exact((Below.refl _ w).drew).alloc (Nat.le_refl _) _);obtain⟨h2,h3⟩:=new_obj (s:=⟨some ⟨w.heap.size,0,G⟩,1,0⟩) hH hbel rfl rfl (λl h=>by
    cases h;refine⟨rfl,_,_,by rw[hw];exact alloc_new w.drew _,?_⟩;have hzc:∀n,(Builtin.zeroCells (Value.int .u8 0).cells n).size=n:=λn=>(by simp[Builtin.zeroCells,Value.cells]);simp only[Array.size_append,hzc,List.size_toArray,List.length_nil];omega)
   exact⟨_,_,_,_,he,⟨rfl,rfl⟩,⟨some ⟨w.heap.size,0,none⟩,G,rfl,.inl rfl,⟨⟨some ⟨w.heap.size,0,G⟩,1,0⟩,Map.QP _ _ _,Nat.le_refl _,λ_=>⟨Nat.zero_le _,trivial,rfl,by simp,λ_=>by simp⟩⟩⟩,h2,h3⟩
def con:Con:=conG g [] f m default
theorem Q5:Qk Try.prog 55 con:=qh known
end M55
end Go.Proofs.Ytnmlmdlhhphcoaa
