/- A part of the proof. -/
import Derived.Test.YtpbplpgfloaaiaaGreatDoorXR2QZa
import Derived.Test.YtpbplpgfloaaiaaGreatDoorXR2QSyL
import Derived.Test.YtpbplpgfloaaiaaGreatDoorXR2QAbsX
import Derived.WalkKit
import Derived.BigCall
import Derived.RangeFuncNested
import Derived.RangeFuncBound
import Derived.RangeFuncCalls
import Derived.RangeFuncLeaves
import Derived.OwnWalkIn
import Derived.TacticsInMore
import Derived.LoopNIn
import Derived.LoopIn
import Derived.Maps.AppendAt
import Derived.Laws.IdiomStrings
import Derived.Maps.OwnSet
set_option linter.all false
set_option maxRecDepth 1000000
set_option maxHeartbeats 4000000
noncomputable section
namespace Go.Proofs.YtpbplpgfloaaiaaGreatDoor
section
open Go.Abs Go.RowKit
namespace Aw
structure Bel(B:Nat)(w w':World):Prop where
 os:w'.os=w.os
 out:w'.output=w.output
 size:w.heap.size<=w'.heap.size
 block:∀k,k<B->w'.heap[k]? =w.heap[k]?
theorem Bel.refl(B:Nat)(w:World):Bel B w w:=⟨rfl,rfl,A6 _,λ_ _=>rfl⟩
theorem Bel.trans{B:Nat}{w w1 w2:World}(h:Bel B w w1)(h':Bel B w1 w2):Bel B w w2:=⟨h'.os.trans h.os,h'.out.trans h.out,BN h.size h'.size,λk hk=>(h'.block k hk).trans (h.block k hk)⟩
theorem Bel.le{B B':Nat}{w w':World}(h:Bel B w w')(hB:B'<=B):Bel B' w w':=⟨h.os,h.out,h.size,λk hk=>h.block k (by omega)⟩
theorem Bel.alloc{B:Nat}{w:World}(o:Obj)(hB:B<=w.heap.size):Bel B w (w.alloc o):=⟨rfl,rfl,by simp,λb hb=>Below.heap_alloc w o b (by omega)⟩
theorem Bel.setCell{B:Nat}{w:World}(a:Addr)(v:Value)(hl:B<=a.block):Bel B w (w.setCell a v):=⟨rfl,rfl,by simp[World.setCell],λb hb=>Below.heap_setCell w a v b (by omega)⟩
theorem calls_tree{f:FuncId}{args:List AV}{v:AV}(h:Qo Tryz.prog f args [] λu τ=>u=v/\τ=[]){w1:World}{cargs:Array Value}(hg:Jc QZ w1)(ha:Yn QZ w1 args cargs):
  Calls Tryz.prog f cargs w1 λe w'=>(∃I' cv,e=.returned cv/\VR I' w' v cv)/\Bel w1.heap.size w1 w':=by
 refine CZ.1 (BI (h.2 QZ w1 cargs hg (UZ w1) ha) λe w' ⟨v',S',I',cv,he,⟨h1,h2⟩,h3,h4,h5⟩=> ?_);subst h1;subst h2;exact⟨⟨I',cv,he,h3⟩,⟨h5.os,h5.out,h5.size,λb hb=>h5.frame b hb (JT b)⟩⟩
theorem isRow.lt{w:World}{b:Nat}(h:isRow w b):b<w.heap.size:=by obtain⟨c,e,fr,h2⟩:=h;exact(A8.1 h2).1
theorem gl_bel{w w':World}(h:Jc QZ w)(hb:Bel w.heap.size w w'):Jc QZ w':=h.mono λb _ hr=>⟨JT b,hb.block b hr.lt⟩
theorem fn_bel{f:FuncId}{args:List AV}{v:AV}(hc:XB Tryz.prog f)
  (h:∀ι w cargs,Jc QZ w->HR ι [] w->Yn ι w args cargs->∃cv,(∀w',VR ι w' v cv)/\Calls Tryz.prog f cargs w λe w'=>e=.returned cv/\Bel w.heap.size w w'):
  Qo Tryz.prog f args [] λu τ=>u=v/\τ=[]:=by
 refine⟨hc,fun ι w cargs hg hH ha=> ?_⟩;obtain⟨cv,hv,hcall⟩:=h ι w cargs (hg.mono λb _ _=>⟨JT b,rfl⟩) hH ha;refine BI (CZ.2 hcall) λe w' ⟨he,hb⟩=> ?_;have hs:Step ι [] w ι [] w':=⟨A6 _,hb.size,hb.os,hb.out,λid s h1=>⟨s,h1,A6 _,λ_=>rfl⟩,λid _ h1=>h1,λid s l h1 h2=>.inr ⟨id,s,l,h1,h2,rfl⟩,rfl,rfl,λb hr=>hb.block b (hH.resRow b hr).lt,λb h1 _=>hb.block b h1⟩;refine⟨v,[],ι,cv,he,⟨rfl,rfl⟩,hv w',⟨λid s h1=> ?_,hH.inj,λb hr=> ?_,hH.resNo⟩,hs⟩
 ·obtain⟨o,h2,_⟩:=hH.obj id s h1;simp at h2
 ·obtain⟨c,e,fr,h2⟩:=hH.resRow b hr;exact⟨c,e,fr,(hb.block b (A8.1 h2).1).trans h2⟩
end Aw
namespace M52
structure gX where(i:Int)
def g:Sg gX:=⟨[.c (.it .i64)],[],λa b=>⟨a.1⟩,λx=>(x.i,()),λx=>()⟩
abbrev fY:=List UInt8
def f:Ft fY:=⟨none,.c .sg,[],λa b=>a,λy=>y,λy=>()⟩
def nm(i:Nat):List UInt8:=[110,UInt8.ofNat (48+i / 10),UInt8.ofNat (48+i%10)]
def m(x:gX):Option fY:=if 0<=x.i/\x.i<100 then some (nm x.i.toNat) else none
theorem callable52:XB Tryz.prog 52:=⟨Tryz.f52,Tryz.func52,by kernel_rfl,by kernel_rfl⟩
theorem name_walk(w:World)(i:Nat)(hi:i<100):Calls Tryz.prog 52 #[.int .i64 i] w λe w'=>e=.returned (.string ⟨(nm i).toArray⟩)/\Aw.Bel w.heap.size w w':=by
 have k0:=Bm w (.cells #[.int .u8 110,.int .u8 (48+(i:Int) / 10),.int .u8 (48+(i:Int)%10)] 5);have hcv:Sem.run Tryz.prog (convert 25 9 (.slice (some ⟨w.heap.size,0,none⟩) 3 3)) (w.alloc (.cells #[.int .u8 110,.int .u8 (48+(i:Int) / 10),.int .u8 (48+(i:Int)%10)] 5))=.ok (.string ⟨(nm i).toArray⟩) (w.alloc (.cells #[.int .u8 110,.int .u8 (48+(i:Int) / 10),.int .u8 (48+(i:Int)%10)] 5)):=
  run_convert_bytes_back _ 25 9 5 ⟨w.heap.size,0,none⟩ 3 (nm i) Tryz.underlying25 Tryz.underlying5 Tryz.underlying9 (λj hj=>by
   have hj:j<3:=hj;have e1:((UInt8.ofNat (48+i / 10)).toNat:Int)=48+(i:Int) / 10:=(by simp;omega);have e2:((UInt8.ofNat (48+i%10)).toNat:Int)=48+(i:Int)%10:=(by simp;omega);rcases (show j=0\/j=1\/j=2 by omega) with rfl|rfl|rfl
   ·show(w.alloc (.cells #[.int .u8 110,.int .u8 (48+(i:Int) / 10),.int .u8 (48+(i:Int)%10)] 5)).cell? ⟨w.heap.size,0,none⟩=some (.int .u8 ((110:UInt8).toNat:Int));simp only[World.cell?,k0];rfl
   ·show(w.alloc (.cells #[.int .u8 110,.int .u8 (48+(i:Int) / 10),.int .u8 (48+(i:Int)%10)] 5)).cell? ⟨w.heap.size,1,none⟩=some (Value.int .u8 ((UInt8.ofNat (48+i / 10)).toNat:Int));rw[e1];simp only[World.cell?,k0];rfl
   ·show(w.alloc (.cells #[.int .u8 110,.int .u8 (48+(i:Int) / 10),.int .u8 (48+(i:Int)%10)] 5)).cell? ⟨w.heap.size,2,none⟩=some (Value.int .u8 ((UInt8.ofNat (48+i%10)).toNat:Int));rw[e2];simp only[World.cell?,k0];rfl)
 go_enter Tryz.func52,Tryz.ntmps52
 go_wp2
 exact Bj (results_tmp rfl _ _ _) rfl ⟨rfl,Aw.Bel.alloc _ (A6 _)⟩
theorem known:QB Tryz.prog 52 g f m:=by
 refine⟨λ_ _=>⟨rfl,rfl⟩,by decide,λ⟨k⟩ y h=> ?_⟩;by_cases hk:0<=k/\k<100
 ·have h:(if 0<=k/\k<100 then some (nm k.toNat) else none)=some y:=h;rw[AF hk]at h;obtain rfl:=Aq h;obtain⟨i,rfl⟩:∃i:Nat,k=i:=⟨k.toNat,by omega⟩;refine Aw.fn_bel callable52 fun ι w cargs hg hH ha=>⟨.string ⟨(nm i).toArray⟩,λw'=>TR.str _,?_⟩;obtain⟨u,e0,hv⟩:=ha.2 0 Nat.one_pos;have hv:TR ι.un w (.int .i64 (i:Int)) u:=hv;cases hv;have hc:cargs= #[.int .i64 (i:Int)]:=(by have h1:cargs.size=1:=ha.1;refine CV h1 λj hj _=> ?_;obtain rfl:j=0:=(by omega);exact(A8.1 e0).2);rw[hc];exact name_walk w i (by omega)
 ·have h:(if 0<=k/\k<100 then some (nm k.toNat) else none)=some y:=h;rw[AP hk]at h;cases h
def con:Con:=Qa g f m default
theorem con_ok:QC Tryz.prog 52 con:=Q9 known (λ_=>rfl) rfl
end M52
end
section
open Go.Abs Go.RowKit
def bad(r:Nat):Bool:=decide (r<=32)||(decide (126<r)||decide (0<=Lib.indexByte [40,41,61,44,35] r.toUInt8))
theorem bad_walk(w:World)(r:Nat):Calls Tryz.prog 178 #[.int .i32 r] w λe w'=>e=.returned (.bool (bad r))/\w'=w:=by
 by_cases h1:(r:Int)<=32
 ·have e0:bad r=true:=(by unfold bad;simp;omega);rw[e0]
  go_enter Tryz.func178,Tryz.ntmps178
  go_wp2
  exact Bj (results_tmp rfl _ _ _) rfl ⟨rfl,rfl⟩
 ·by_cases h2:(126:Int)<r
  ·have e0:bad r=true:=(by unfold bad;simp;omega);rw[e0]
   go_enter Tryz.func178,Tryz.ntmps178
   go_wp2
   exact Bj (results_tmp rfl _ _ _) rfl ⟨rfl,rfl⟩
  ·have e0:bad r=decide (0<=Lib.indexByte [40,41,61,44,35] (r:Int).toNat.toUInt8):=(by have f1:decide (r<=32)=false:=AN (by omega);have f2:decide (126<r)=false:=AN (by omega);unfold bad;rw[f1,f2,AC,Bool.false_or,Bool.false_or]);rw[e0];have hr:=λw=>Any.strings_ContainsRune_ascii Tryz.lays151 ⟨#[40,41,61,44,35]⟩ r w (by omega) (by omega)
   change∀w,Calls Tryz.prog 179 _ _ _ at hr
   obtain⟨b,hb⟩:∃b,decide (0<=Lib.indexByte [40,41,61,44,35] (r:Int).toNat.toUInt8)=b:=⟨_,rfl⟩;have hr:∀w,Calls Tryz.prog 179 #[.string ⟨#[40,41,61,44,35]⟩,.int .i32 r] w λe w'=>e=.returned (.bool b)/\w'=w:=λw=>(hr w).mono λe w' h=>(by rw[<-hb];exact h);rw[hb]
   go_enter Tryz.func178,Tryz.ntmps178
   go_wp2_with (go_at_call 179;refine(hr _).mono ?_;rintro e w' ⟨rfl,rfl⟩)
   exact Bj (results_tmp rfl _ _ _) rfl ⟨rfl,rfl⟩
theorem enters178:∀args w,(callFunc 178 args).run Tryz.prog w=.ok (.enter 178 args) w:=enters_of Tryz.func178 (by kernel_rfl) rfl
theorem contains_bad(s:ByteArray)(w:World):Calls Tryz.prog 180 #[.string s,.func (.func 178) #[] #[]] w λe w'=>e=.returned (.bool (decide (0<=Lib.idxFunc bad true s)))/\Below w.heap.size w w':=
 Any.strings_ContainsFunc Tryz.laysGw17 178 #[] enters178 bad s w λW r _=>(bad_walk W r).mono λe w' ⟨h1,h2⟩=>⟨h1,0,h2⟩
theorem isName_walk(s:ByteArray)(w:World)(h0:s.toList.isEmpty=false)(h1:s.size<=32)(hb:Lib.idxFunc bad true s= -1):Calls Tryz.prog 166 #[.string s] w λe w'=>e=.returned (.bool true)/\Below w.heap.size w w':=by
 have hc:=contains_bad s;rw[hb]at hc;have e2:(s.size:Int)<=32:=by omega
 go_enter Tryz.func166,Tryz.ntmps166
 go_wp2_with (go_at_call 180;refine(hc _).mono ?_;rintro e w' ⟨rfl,hB⟩)
 exact Bj (results_tmp rfl _ _ _) rfl ⟨rfl,hB⟩
theorem nm_good(i:Nat)(hi:i<20):Lib.idxFunc bad true ⟨(M52.nm i).toArray⟩= -1/\(⟨(M52.nm i).toArray⟩:ByteArray).toList.isEmpty=false:=by
 have e:i=0\/i=1\/i=2\/i=3\/i=4\/i=5\/i=6\/i=7\/i=8\/i=9\/i=10\/i=11\/i=12\/i=13\/i=14\/i=15\/i=16\/i=17\/i=18\/i=19:=by omega
 clear hi;rcases e with rfl|rfl|rfl|rfl|rfl|rfl|rfl|rfl|rfl|rfl|rfl|rfl|rfl|rfl|rfl|rfl|rfl|rfl|rfl|rfl<;>exact⟨by decide+kernel,by decide+kernel⟩
theorem isName_nm(i:Nat)(hi:i<20)(w:World):Calls Tryz.prog 166 #[.string ⟨(M52.nm i).toArray⟩] w λe w'=>e=.returned (.bool true)/\Below w.heap.size w w':=
 isName_walk _ w (nm_good i hi).2 (by show 3<=32;omega) (nm_good i hi).1
end
section
open Go.RowKit Go.Maps Go.WideMaps
namespace Nm
theorem Bel.grown{B b:Nat}{w w1 w2:World}(h:Aw.Bel B w w1)(hg:w1.grownBy w2 (some b))(hB:B<=w.heap.size)(hb:B<=b):Aw.Bel B w w2:=
 h.trans ⟨hg.os,hg.output,hg.size,λk hk=>hg.block k (BV hk (BN hB h.size)) (λe=>by cases e;omega)⟩
theorem Bel.map{P:Program}{k:TypeId}{R:Value->Option (DataW Unit×List MemPlace)}{b n:Nat}{D:DataW Unit}{w w':World}(h:Below w.heap.size w w')(ho:w.ownsMap P k R b n D):w'.ownsMap P k R b n D:=by have hlt:=ho.lt;obtain⟨es,clock,hb,F,hs,hD⟩:=ho;exact⟨es,clock,(h.block b hlt).trans hb,F,hs,hD⟩
def Dk(nm:Nat->List UInt8):Nat->DataW Unit
 |0=>.map []
 |k+1=>(Dk nm k).put (.string (nm k)) (.lit (.bool true))
structure Good(nm:Nat->List UInt8)(n:Nat):Prop where
 len:∀k,k<n->(nm k).length<=32
 name:∀k,k<n->∀w:World,Calls Tryz.prog 166 #[.string ⟨(nm k).toArray⟩] w λe w'=>e=.returned (.bool true)/\Below w.heap.size w w'
 seen:∀k,k<n->(Dk nm k).atKey (.string (nm k)) (.lit (.bool false))=.lit (.bool false)
theorem law9:Keyed Tryz.prog 9:=string_keyed Tryz.underlying9
theorem zero4(w:World):(zeroValue 4).run Tryz.prog w=.ok (.bool false) w:=by kernel_rfl
theorem und277:Tryz.prog.underlying 277=some (.map 9 4):=by kernel_rfl
theorem key_ok{s:List UInt8}(h:s.length<=32):keyOf Tryz.prog 9 (.string ⟨s.toArray⟩)=some (.string s):=by
 exact keyOf_string_mk (s:=⟨s.toArray⟩) Tryz.underlying9 (by
  show s.toArray.size<=maxLen;unfold maxLen;simp;omega)
theorem good_nm{n:Nat}(hn:n<=20):Good M52.nm n where
 len:=λk _=>by show 3<=32;omega
 name:=λk hk w=>isName_nm k (by omega) w
 seen:=by intro i hi;have hi:i<20:=(by omega);have e:i=0\/i=1\/i=2\/i=3\/i=4\/i=5\/i=6\/i=7\/i=8\/i=9\/i=10\/i=11\/i=12\/i=13\/i=14\/i=15\/i=16\/i=17\/i=18\/i=19:=(by omega);clear hi;rcases e with rfl|rfl|rfl|rfl|rfl|rfl|rfl|rfl|rfl|rfl|rfl|rfl|rfl|rfl|rfl|rfl|rfl|rfl|rfl|rfl<;>(show @Eq (DataW Unit) _ _;kernel_rfl)
def nmA(i:Nat):List UInt8:=[(([97,98,100,101]:List UInt8)[i]?).getD 0]
def nmB(i:Nat):List UInt8:=[(([97,98,121]:List UInt8)[i]?).getD 0]
theorem good_A:Good nmA 4 where
 len:=λk _=>by show 1<=32;omega
 name:=λk hk w=>by have e:k=0\/k=1\/k=2\/k=3:=(by omega);clear hk;rcases e with rfl|rfl|rfl|rfl<;>exact isName_walk _ w (by decide+kernel) (by show 1<=32;omega) (by decide+kernel)
 seen:=by intro k hk;have e:k=0\/k=1\/k=2\/k=3:=(by omega);clear hk;rcases e with rfl|rfl|rfl|rfl<;>(show @Eq (DataW Unit) _ _;kernel_rfl)
theorem good_B:Good nmB 3 where
 len:=λk _=>by show 1<=32;omega
 name:=λk hk w=>by have e:k=0\/k=1\/k=2:=(by omega);clear hk;rcases e with rfl|rfl|rfl<;>exact isName_walk _ w (by decide+kernel) (by show 1<=32;omega) (by decide+kernel)
 seen:=by intro k hk;have e:k=0\/k=1\/k=2:=(by omega);clear hk;rcases e with rfl|rfl|rfl<;>(show @Eq (DataW Unit) _ _;kernel_rfl)
theorem bool_inv{v:Value}{ps:List MemPlace}{x:Bool}(h:plainElem (H:=Unit) Tryz.prog 4 v=some (.lit (.bool x),ps)):v=.bool x:=by unfold plainElem at h;rw[Tryz.underlying4]at h;cases v<;>simp at h;rw[h.1]
theorem names_walk(nm:Nat->List UInt8)(vn vm vo:Value)(b off n cap:Nat)(w:World)(hn:n<=20)(hG:Good nm n)(hb:b<w.heap.size)(hc:∀j,j<n->w.cell? ⟨b,off+j,none⟩=some (.string ⟨(nm j).toArray⟩)):
  Calls Tryz.prog 143 #[.agg #[vn,.slice (some ⟨b,off,none⟩) n cap,vm,vo]] w λe w'=>e=.returned (.int .i64 0)/\Aw.Bel w.heap.size w w':=by
 have hmm:=@run_makeMap Tryz.prog
 go_enter Tryz.func143,Tryz.ntmps143
 go_wp2
 go_loopw [10] (λi wr=>∃k:Nat,k<=n/\i=.int .i64 k/\wr.ownsMap Tryz.prog 9 (plainElem (H:=Unit) Tryz.prog 4) (w.heap.size+1) k (Dk nm k)/\Aw.Bel w.heap.size w wr)
  (λi _=>20 - (intOf i).toNat)
 case atStart=>exact⟨0,B0 _,rfl,(by have:=World.ownsMap_made (w.alloc (Obj.cells #[vn,Value.slice (some ⟨b,off,none⟩) n cap,vm,vo] 34)) Tryz.prog 9 (plainElem (H:=Unit) Tryz.prog 4);simp only[World.size_alloc]at this;exact this),(Aw.Bel.alloc _ (A6 _)).trans (Aw.Bel.alloc _ (by simp))⟩
 case round=>
  obtain⟨k,hk,rfl,hown,hnx⟩:=hrel;have hsz:=hnx.size;by_cases hlt:k<n
  ·have hcell:wr.cell? ⟨b,off+k,none⟩=some (.string ⟨(nm k).toArray⟩):=by rw[<-hc k hlt];simp only[World.cell?,hnx.block b hb]
   go_wp2_with (go_at_call 166;refine(hG.name k hlt _).mono ?_)
   rintro e w1 ⟨rfl,hb1⟩;have hown1:=Bel.map hb1 hown;obtain⟨v,ps,hrun,hv⟩:=hown1.lookup law9 und277 (zero4 _) (plainElem_bool (H:=Unit) Tryz.underlying4 false) (key_ok (hG.len k hlt));rw[hG.seen k hlt]at hv;obtain rfl:=bool_inv hv;have hB1:Aw.Bel w.heap.size w w1:=hnx.trans ⟨hb1.os,hb1.output,hb1.size,λj hj=>hb1.block j (by omega)⟩;have hkey:=key_ok (hG.len k hlt)
   go_wp2_with (first
    |(at_mapUpdate;refine wpList_mapUpdate_own _ rfl _ _ _ 277 rfl 9 4 law9 und277 (plainElem (H:=Unit) Tryz.prog 4) (w.heap.size+1) k _ rfl hown1 (by unfold maxLen;omega) _ _ _ rfl rfl hkey _ [] (plainElem_bool Tryz.underlying4 true) ?_;intro w5 hown5 hgrow5)
    |go_in)
   go_roundw
   case rel=>exact⟨k+1,by omega,by go_num,hown5,Bel.grown hB1 hgrow5 (A6 _) (by omega)⟩
   case measure=>simp[intOf];omega
  ·have:k=n:=(by omega);subst this
   go_wp2
   go_ret
   exact⟨rfl,hnx⟩
end Nm
end
section
open Go.Abs
theorem fl_str:∀l:List (List UInt8),l.flatMap (Ly.trees .str)=l.map T.str
 |[]=>rfl
 |a::l=>by rw[An,AT,fl_str l];rfl
namespace M143
structure gX where(nodes:List ((Int)×(List (Int))×(Int)×Int))(names:List (List UInt8))(mems:List ((List (Int))×(List (Int))×Int))(outs:List (Int))
def g:Sg gX:=⟨[.agg [.arr (.pair (.int .u8) (.pair (.sl (.int .i64)) (.pair (.int .i64) (.int .i64)))),.arr .str,.arr (.pair (.sl (.int .i64)) (.pair (.sl (.int .i64)) (.int .i64))),.arr (.int .i64)]],[],λa b=>⟨a.1.1,a.1.2.1,a.1.2.2.1,a.1.2.2.2.1⟩,λx=>((x.nodes,(x.names,(x.mems,(x.outs,())))),()),λx=>()⟩
abbrev fY:=Int
def f:Ft fY:=⟨none,.c (.it .i64),[],λa b=>(a),λy=>y,λy=>()⟩
def m(x:gX):Option fY:=if (x.names=(List.range x.names.length).map M52.nm/\1<=x.names.length/\x.names.length<=20)\/x.names=[[97],[98],[100],[101]]\/x.names=[[97],[98],[121]] then some 0 else none
theorem callable143:XB Tryz.prog 143:=⟨Tryz.f143,Tryz.func143,by kernel_rfl,by kernel_rfl⟩
theorem fn_of(nm:Nat->List UInt8){nodes:List ((Int)×(List (Int))×(Int)×Int)}{names:List (List UInt8)}{mems:List ((List (Int))×(List (Int))×Int)}{outs:List (Int)}(hnm:names=(List.range names.length).map nm)(h1:1<=names.length)(h20:names.length<=20)(hG:Nm.Good nm names.length):Qo Tryz.prog 143 ((g.A ⟨nodes,names,mems,outs⟩).map SV.den) [] λu τ=>u=.c (.t (.int .i64 0))/\τ=[]:=by
 refine Aw.fn_bel callable143 fun ι w cargs hg hH ha=>⟨.int .i64 0,λw'=>TR.int _ _,?_⟩;obtain⟨u,e0,arr,rfl,hsz,hv⟩:=ha.2 0 Nat.one_pos;have hsz:arr.size=4:=hsz;obtain⟨v0,q0,_⟩:=hv 0 (show 0<4 by omega);obtain⟨v1,q1,t1⟩:=hv 1 (show 1<4 by omega);obtain⟨v2,q2,_⟩:=hv 2 (show 2<4 by omega);obtain⟨v3,q3,_⟩:=hv 3 (show 3<4 by omega);have harr:arr= #[v0,v1,v2,v3]:=by
  refine CV (by rw[hsz];rfl) λj hj _=> ?_;have hj:j<4:=(by omega);rcases (show j=0\/j=1\/j=2\/j=3 by omega) with rfl|rfl|rfl|rfl
  ·exact(A8.1 q0).2
  ·exact(A8.1 q1).2
  ·exact(A8.1 q2).2
  ·exact(A8.1 q3).2
 have hc:cargs= #[.agg #[v0,v1,v2,v3]]:=by have h1:cargs.size=1:=ha.1;refine CV h1 λj hj _=> ?_;obtain rfl:j=0:=(by omega);rw[<-harr];exact(A8.1 e0).2
 have t1:TR ι.un w (.imm (names.flatMap (Ly.trees .str)) names.length none) v1:=t1;rw[fl_str]at t1;rw[hc];generalize hl:names.length=n at*
 generalize hcs:names.map T.str=cs at t1
 cases t1 with
 |imm0=>omega
 |imm cs len cap b off c fv hU hrow hcap hle hcells hT=>subst hcs;refine Nm.names_walk nm v0 v2 v3 b off n c w h20 hG hrow.lt λj hj=> ?_;have hj':j<(names.map T.str).length:=(by rw[AA,hl];exact hj);have h5:=hT j hj';have e5:(names.map T.str)[j]=T.str (nm j):=(by rw[AX];congr 1;have:names[j]'(by rw[hl];exact hj)=((List.range n).map nm)[j]'(by simp;exact hj):=(by congr 1);rw[this];simp);rw[e5]at h5;rw[hcells j hj'];generalize fv j=z at h5;cases h5;rfl
theorem known:QB Tryz.prog 143 g f m:=by
 refine⟨λ_ _=>⟨rfl,rfl⟩,by decide,λ⟨nodes,names,mems,outs⟩ y h=> ?_⟩;by_cases hk:(names=(List.range names.length).map M52.nm/\1<=names.length/\names.length<=20)\/names=[[97],[98],[100],[101]]\/names=[[97],[98],[121]]
 ·have h:(if (names=(List.range names.length).map M52.nm/\1<=names.length/\names.length<=20)\/names=[[97],[98],[100],[101]]\/names=[[97],[98],[121]] then some 0 else none)=some y:=h;rw[AF hk]at h;obtain rfl:=Aq h;rcases hk with ⟨hnm,h1,h20⟩|rfl|rfl
  ·exact fn_of M52.nm hnm h1 h20 (Nm.good_nm h20)
  ·exact fn_of Nm.nmA rfl (by decide) (by decide) Nm.good_A
  ·exact fn_of Nm.nmB rfl (by decide) (by decide) Nm.good_B
 ·have h:(if (names=(List.range names.length).map M52.nm/\1<=names.length/\names.length<=20)\/names=[[97],[98],[100],[101]]\/names=[[97],[98],[121]] then some 0 else none)=some y:=h;rw[AP hk]at h;cases h
def con:Con:=Qa g f m default
theorem con_ok:QC Tryz.prog 143 con:=Q9 known (λ_=>rfl) rfl
end M143
end
section
open Go.Abs Go.RowKit
abbrev NodeT:=Int×List Int×Int×Int
def pinsOf(n:Nat)(i:Nat):List Int->Nat->List (Int×Int)
 |[],_=>[]
 |a::r,k=>if a=(n:Int) then ((i:Int),(k:Int))::pinsOf n i r (k+1) else pinsOf n i r (k+1)
def readers(n:Nat):List NodeT->Nat->List (Int×Int)
 |[],_=>[]
 |x::r,i=>pinsOf n i x.2.1 0++readers n r (i+1)
namespace Fo
theorem pinsOf_snoc(j i:Nat)(a:Int):∀(l:List Int) (k:Nat),pinsOf j i (l++[a]) k=pinsOf j i l k++if a=(j:Int) then [((i:Int),((k+l.length:Nat):Int))] else []
 |[],k=>by simp only[Bx,pinsOf,List.length_nil,BZ]
 |b::l,k=>by have ih:=pinsOf_snoc j i a l (k+1);simp only[List.cons_append,pinsOf,As];rw[ih,show k+1+l.length=k+(l.length+1) by omega];split<;>simp
theorem readers_snoc(j:Nat)(x:NodeT):∀(r:List NodeT) (i:Nat),readers j (r++[x]) i=readers j r i++pinsOf j (i+r.length) x.2.1 0
 |[],i=>by simp[readers]
 |y::r,i=>by have ih:=readers_snoc j x r (i+1);simp only[List.cons_append,readers,As];rw[ih,show i+1+r.length=i+(r.length+1) by omega,Ac]
def lnC(L:List (Int×Int)):List Value:=L.flatMap λe=>[.int .i64 e.1,.int .i64 e.2]
theorem lnC_snoc(L:List (Int×Int))(a b:Int):lnC (L++[(a,b)])=lnC L++[.int .i64 a,.int .i64 b]:=by simp[lnC]
theorem own_keep{W W':World}{lo e n s:Nat}{v:Value}{xs:List Value}(h:W.ownsRow lo e s v n xs)(hk:∀g,v.ownBlock=some g->W'.heap[g]? =W.heap[g]?):W'.ownsRow lo e s v n xs:=by
 refine⟨h.1,?_⟩;rcases h.2 with h|⟨g,cap,cur,rfl,g2,g3,g4⟩
 ·exact .inl h
 ·exact .inr ⟨g,cap,cur,rfl,g2,(hk g rfl).trans g3,g4⟩
theorem own_ne{W:World}{lo e n s g:Nat}{v:Value}{xs:List Value}(h:W.ownsRow lo e s v n xs){cur:Array Value}{e':TypeId}{fr:Nat×Nat}(hg:W.heap[g]? =some (.cells cur e' fr))(he:e≠e'):v.ownBlock≠some g:=by
 rcases h.2 with ⟨rfl,_⟩|⟨g',cap',cur',rfl,g2',g3',_⟩
 ·simp[Value.ownBlock]
 ·intro e1;injection e1 with e1;have e1:g'=g:=e1;rw[e1,hg]at g3';cases g3';exact he rfl
def clip:Value->Value
 |.slice a n _=>.slice a n n
 |v=>v
structure Fan(W:World)(lo g n i:Nat)(rv:Nat->Value)(L:Nat->List (Int×Int)):Prop where
 top:W.heap[g]? =some (.cells ((List.range n).map λj=>if j<i then clip (rv j) else rv j).toArray 95 (0,0))
 low:lo<=g
 row:∀j,j<n->W.ownsRow lo 55 2 (rv j) (L j).length (lnC (L j))
 apart:∀j j',j<n->j'<n->j≠j'->(rv j).ownBlock=none\/(rv j).ownBlock≠(rv j').ownBlock
theorem Fan.keep{W W':World}{lo g n i:Nat}{rv:Nat->Value}{L:Nat->List (Int×Int)}(h:Fan W lo g n i rv L)(hk:∀b,lo<=b->b<W.heap.size->W'.heap[b]? =W.heap[b]?):Fan W' lo g n i rv L:=
 ⟨(hk g h.low (A8.1 h.top).1).trans h.top,h.low,λj hj=>own_keep (h.row j hj) λb hb=>hk b ((h.row j hj).lt b hb).1 ((h.row j hj).lt b hb).2,h.apart⟩
theorem Fan.alloc{W:World}{lo g n i:Nat}{rv:Nat->Value}{L:Nat->List (Int×Int)}(h:Fan W lo g n i rv L)(o:Obj):Fan (W.alloc o) lo g n i rv L:=h.keep λb _ hlt=>Below.heap_alloc W o b hlt
theorem Fan.at{W:World}{lo g n i:Nat}{rv:Nat->Value}{L:Nat->List (Int×Int)}(h:Fan W lo g n i rv L){j:Nat}(hj:j<n):W.cell? ⟨g,j,none⟩=some (if j<i then clip (rv j) else rv j)/\W.frozen? ⟨g,j,none⟩=false:=by refine⟨?_,by simp[World.frozen?,h.top]⟩;simp[World.cell?,h.top,hj]
theorem map_upd(n j:Nat)(f f':Nat->Value)(v:Value)(hv:f' j=v)(hf:∀k,k≠j->f' k=f k):((List.range n).map f).toArray.setIfInBounds j v=((List.range n).map f').toArray:=by
 refine CV (by simp) λk h1 h2=> ?_;have hk:k<((List.range n).map f).toArray.size:=by simpa using h1
 rw[Array.getElem_setIfInBounds hk];by_cases e:j=k
 ·subst e;rw[AF rfl];simp[hv]
 ·rw[AP e];simp[hf k (λh=>e h.symm)]
theorem Fan.step{W W1:World}{lo g n:Nat}{rv:Nat->Value}{L:Nat->List (Int×Int)}(h:Fan W lo g n 0 rv L){j:Nat}(hj:j<n){v':Value}{a b:Int}
  (ho:W1.ownsRow lo 55 2 v' ((L j).length+1) (lnC (L j)++[.int .i64 a,.int .i64 b])) (hg:W.grownBy W1 (rv j).ownBlock) (hat:v'.ownBlock=(rv j).ownBlock\/v'.ownBlock=some W.heap.size):
  Fan (W1.setCell ⟨g,j,none⟩ v') lo g n 0 (λk=>if k=j then v' else rv k) (λk=>if k=j then L j++[(a,b)] else L k):=by
 have hgl:=(A8.1 h.top).1;have hne:=own_ne (h.row j hj) h.top (by decide);have htop:W1.heap[g]? =some (.cells ((List.range n).map λj=>if j<0 then clip (rv j) else rv j).toArray 95 (0,0)):=(hg.block g hgl (λe=>hne e.symm)).trans h.top;have hk:∀c,c≠g->(W1.setCell ⟨g,j,none⟩ v').heap[c]? =W1.heap[c]? :=λc hc=>Below.heap_setCell W1 _ _ _ hc;have hvne:v'.ownBlock≠some g:=own_ne ho htop (by decide);refine⟨?_,h.low,λk hk'=> ?_,λk k' hk1 hk2 hne'=> ?_⟩
 ·have:=BS _ _ j _ _ v' htop;rw[this,map_upd n j _ (λk=>if k<0 then clip (if k=j then v' else rv k) else (if k=j then v' else rv k)) v' (by simp) (λk hk=>by simp[hk])]
 ·by_cases e:k=j
  ·subst e;simp only[Ag];rw[lnC_snoc,AL];exact own_keep ho λc hc=>hk c λe=>hvne (by rw[hc,e])
  ·simp only[AP e];have h1:=(h.row k hk').kept hg (h.apart k j hk' hj e);exact own_keep h1 λc hc=>hk c λe=>own_ne (h.row k hk') h.top (by decide) (by rw[hc,e])
 ·have new:∀k,k<n->k≠j->(v'.ownBlock=none\/v'.ownBlock≠(rv k).ownBlock)/\((rv k).ownBlock=none\/(rv k).ownBlock≠v'.ownBlock):=λk hk1 hkj=>by
   rcases hat with hat|hat
   ·rw[hat];exact⟨h.apart j k hj hk1 (λe=>hkj e.symm),h.apart k j hk1 hj hkj⟩
   ·have:(rv k).ownBlock≠some W.heap.size:=λe=>(by have:=((h.row k hk1).lt _ e).2;omega);rw[hat];exact⟨.inr (λe=>this e.symm),.inr this⟩
  by_cases e:k=j
  ·subst e;rw[AF rfl,AP (λe:k'=k=>hne' e.symm)];exact(new k' hk2 (λe=>hne' e.symm)).1
  ·by_cases e':k'=j
   ·subst e';simp only[Ag,AP e];exact(new k hk1 e).2
   ·simp only[AP e,AP e'];exact h.apart k k' hk1 hk2 hne'
theorem Fan.clip1{W:World}{lo g n i:Nat}{rv:Nat->Value}{L:Nat->List (Int×Int)}(h:Fan W lo g n i rv L)(hi:i<n):Fan (W.setCell ⟨g,i,none⟩ (clip (rv i))) lo g n (i+1) rv L:=by
 have hk:∀c,c≠g->(W.setCell ⟨g,i,none⟩ (clip (rv i))).heap[c]? =W.heap[c]? :=λc hc=>Below.heap_setCell W _ _ _ hc;refine⟨?_,h.low,λk hk'=>own_keep (h.row k hk') λc hc=>hk c λe=>own_ne (h.row k hk') h.top (by decide) (by rw[hc,e]),h.apart⟩;have:=BS _ _ i _ _ (clip (rv i)) h.top;rw[this,map_upd n i _ (λj=>if j<i+1 then clip (rv j) else rv j) (clip (rv i)) (by simp) (λk hk=>by
  by_cases e:k<i
  ·rw[AF e,AF (by omega)]
  ·rw[AP e,AP (by omega)])]
theorem Fan.slice{W:World}{lo g n i:Nat}{rv:Nat->Value}{L:Nat->List (Int×Int)}(h:Fan W lo g n i rv L){j:Nat}(hj:j<n):∃a k,rv j=.slice a (L j).length k/\(L j).length<=k:=by
 rcases (h.row j hj).2 with ⟨h1,h2⟩|⟨g',cap,cur,h1,_,_,h3,_⟩
 ·exact⟨none,0,by rw[h1,h2],by omega⟩
 ·exact⟨_,cap,h1,h3⟩
theorem ln_trees(L:List (Int×Int)):L.flatMap (Ly.pair (.int .i64) (.int .i64)).trees=L.flatMap λe=>[T.int .i64 e.1,T.int .i64 e.2]:=rfl
theorem ln_len(L:List (Int×Int)):(L.flatMap λe=>[T.int .i64 e.1,T.int .i64 e.2]).length=L.length*2:=by
 induction L with
 |nil=>rfl
 |cons a L ih=>rw[An,AL,ih,As];simp;omega
theorem ln_at:∀(L:List (Int×Int)) (k:Nat) (u:Value),(lnC L)[k]? =some u->∃n:Int,u=.int .i64 n/\(L.flatMap λe=>[T.int .i64 e.1,T.int .i64 e.2])[k]? =some (T.int .i64 n)
 |[],k,u,h=>by simp[lnC]at h
 |a::L,0,u,h=>by simp[lnC]at h;exact⟨a.1,h.symm,by simp⟩
 |a::L,1,u,h=>by simp[lnC]at h;exact⟨a.2,h.symm,by simp⟩
 |a::L,k+2,u,h=>by have h:(lnC L)[k]? =some u:=(by simpa [lnC] using h);obtain⟨n,h1,h2⟩:=ln_at L k u h;exact⟨n,h1,by simpa using h2⟩
theorem Fan.rowTree{U:Nat->Prop}{W:World}{lo g n i:Nat}{rv:Nat->Value}{L:Nat->List (Int×Int)}(h:Fan W lo g n i rv L)(hU:∀b,lo<=b->U b){j:Nat}(hj:j<n):TR U W (.imm ((L j).flatMap (Ly.pair (.int .i64) (.int .i64)).trees) (L j).length none) (clip (rv j)):=by
 rw[ln_trees];have hrow:=h.row j hj;rcases hrow.2 with ⟨h1,h2⟩|⟨g',cap,cur,h1,h2,h3,h4,_,h6,h7⟩
 ·rw[h1,h2,Al.1 h2];exact TR.imm0 none none 0 trivial
 ·rw[h1];show TR U W _ (.slice (some ⟨g',0,none⟩) (L j).length (L j).length);have hc:∀k u,(lnC (L j))[k]? =some u->W.cell? ⟨g',0+k,none⟩=some u:=λk u hu=>by
   rw[<-h7,List.getElem?_take]at hu;split at hu
   ·simp[World.cell?,h3];simpa using hu
   ·cases hu
  have hx:∀k,k<((L j).flatMap λe=>[T.int .i64 e.1,T.int .i64 e.2]).length->∃n:Int,W.cell? ⟨g',0+k,none⟩=some (.int .i64 n)/\((L j).flatMap λe=>[T.int .i64 e.1,T.int .i64 e.2])[k]? =some (T.int .i64 n):=λk hk=>(by have hlen:=hrow.1;rw[ln_len]at hk;obtain⟨n,e1,e2⟩:=ln_at (L j) k ((lnC (L j))[k]'(by omega)) (A4 _);exact⟨n,by rw[hc k _ (A4 (by omega)),e1],e2⟩);refine TR.imm _ _ none g' 0 _ (λk=>(W.cell? ⟨g',0+k,none⟩).getD undef) (hU g' h2) ⟨cur,55,(0,0),h3⟩ trivial (A6 _) (λk hk=> ?_) (λk hk=> ?_)
  ·obtain⟨n,e1,_⟩:=hx k hk;rw[e1];rfl
  ·obtain⟨n,e1,e2⟩:=hx k hk;rw[e1];rw[A4 hk]at e2;injection e2 with e2;rw[e2];exact TR.int _ _
theorem rows_tr(n:Nat)(L:Nat->List (Int×Int)):((List.range n).map L).flatMap (Ly.sl (.pair (.int .i64) (.int .i64))).trees=(List.range n).map λj=>T.imm ((L j).flatMap (Ly.pair (.int .i64) (.int .i64)).trees) (L j).length none:=by
 induction n with
 |zero=>rfl
 |succ n ih=>rw[List.range_succ,AZ,AZ,List.flatMap_append,ih];rfl
theorem Fan.tree{U:Nat->Prop}{W:World}{lo g n:Nat}{rv:Nat->Value}{L:Nat->List (Int×Int)}(h:Fan W lo g n n rv L)(hU:∀b,lo<=b->U b):TR U W (.imm (((List.range n).map L).flatMap (Ly.sl (.pair (.int .i64) (.int .i64))).trees) ((List.range n).map L).length none) (.slice (some ⟨g,0,none⟩) n n):=by
 rw[rows_tr,AA,List.length_range];refine TR.imm _ _ none g 0 n (λj=>clip (rv j)) (hU g h.low) ⟨_,_,_,h.top⟩ trivial (A6 _) (λj hj=> ?_) (λj hj=> ?_)
 ·have hj':j<n:=(by simpa using hj);have:=(h.at hj').1;rw[AF hj']at this;rw[AI];exact this
 ·have hj':j<n:=(by simpa using hj);simp only[AX,List.getElem_range];exact h.rowTree hU hj'
structure NodesAt(w:World)(B:Nat)(v:Value)(N:List NodeT):Prop where
 ex:∃a k,v=.slice a N.length k/\∀i (hi:i<N.length),∃b off aj kj,a=some ⟨b,off,none⟩/\b<B/\b<w.heap.size/\
  w.cell? ⟨b,off+4*i,none⟩=some (.int .u8 N[i].1)/\w.cell? ⟨b,off+(4*i+1),none⟩=some (.slice aj N[i].2.1.length kj)/\w.cell? ⟨b,off+(4*i+2),none⟩=some (.int .i64 N[i].2.2.1)/\w.cell? ⟨b,off+(4*i+3),none⟩=some (.int .i64 N[i].2.2.2)/\
  ∀p (hp:p<N[i].2.1.length),∃b' off',aj=some ⟨b',off',none⟩/\b'<B/\b'<w.heap.size/\w.cell? ⟨b',off'+p,none⟩=some (.int .i64 N[i].2.1[p])
theorem NodesAt.keep{w w':World}{B:Nat}{v:Value}{N:List NodeT}(h:NodesAt w B v N)(hs:w.heap.size<=w'.heap.size)(hk:∀b,b<B->w'.heap[b]? =w.heap[b]?):NodesAt w' B v N:=by obtain⟨a,k,rfl,hx⟩:=h.ex;refine⟨a,k,rfl,λi hi=> ?_⟩;obtain⟨b,off,aj,kj,h1,h2,h3,h4,h5,h6,h7,h8⟩:=hx i hi;have e:∀o,w'.cell? ⟨b,o,none⟩=w.cell? ⟨b,o,none⟩:=λo=>BL (hk b h2);refine⟨b,off,aj,kj,h1,h2,by omega,by rw[e];exact h4,by rw[e];exact h5,by rw[e];exact h6,by rw[e];exact h7,λp hp=> ?_⟩;obtain⟨b',off',g1,g2,g3,g4⟩:=h8 p hp;exact⟨b',off',g1,g2,by omega,(BL (hk b' g2)).trans g4⟩
theorem i64_trees(l:List Int):l.flatMap (Ly.int .i64).trees=l.map (T.int .i64):=by
 induction l with
 |nil=>rfl
 |cons a l ih=>rw[An,ih];rfl
theorem ints_read{U:Nat->Prop}{w:World}{xs:List Int}{v:Value}(h:TR U w (.imm (xs.flatMap (Ly.int .i64).trees) xs.length none) v):
  ∃a k,v=.slice a xs.length k/\∀i (hi:i<xs.length),∃b off,a=some ⟨b,off,none⟩/\b<w.heap.size/\w.cell? ⟨b,off+i,none⟩=some (.int .i64 xs[i]):=by
 rw[i64_trees]at h;generalize ht:T.imm (xs.map (T.int .i64)) xs.length none=t at h
 cases h with
 |imm0 cap' a c hc=>injection ht with h1 h2;have h3:xs=[]:=Al.1 h2;subst h3;exact⟨a,c,rfl,λk hk=>by simp at hk⟩
 |imm cs len cap' b off c f hb hr hc hle hcell ht'=>injection ht with h1 h2;subst h1;subst h2;refine⟨_,c,rfl,λk hk=>⟨b,off,rfl,hr.lt,?_⟩⟩;have hk':k<(xs.map (T.int .i64)).length:=(by simpa using hk);rw[hcell k hk'];have h5:=ht' k hk';simp only[AX]at h5;generalize f k=u at h5⊢;cases h5;rfl
 |_=>cases ht
abbrev ndL:Ly:=.pair (.int .u8) (.pair (.sl (.int .i64)) (.pair (.int .i64) (.int .i64)))
theorem nd_at:∀(N:List NodeT) (i k:Nat) (hi:i<N.length) (_:k<4),(N.flatMap (Ly.trees ndL))[4*i+k]? =(Ly.trees ndL N[i])[k]?
 |x::N,0,k,hi,hk=>by rw[An,AK (by show 4*0+k<4;omega)];simp
 |x::N,i+1,k,hi,hk=>by have e:(Ly.trees ndL x).length=4:=rfl;rw[An,AS (by rw[e];omega),e,show 4*(i+1)+k - 4=4*i+k by omega,nd_at N i k (by simpa using hi) hk];simp
theorem nd_len:∀N:List NodeT,(N.flatMap (Ly.trees ndL)).length=4*N.length
 |[]=>rfl
 |x::N=>by rw[An,AL,nd_len N,As];have e:(Ly.trees ndL x).length=4:=rfl;omega
theorem nodes_read{U:Nat->Prop}{w:World}{N:List NodeT}{v:Value}(h:TR U w (.imm (N.flatMap (Ly.trees ndL)) N.length none) v):NodesAt w w.heap.size v N:=by
 generalize ht:T.imm (N.flatMap (Ly.trees ndL)) N.length none=t at h
 cases h with
 |imm0 cap' a c hc=>injection ht with h1 h2;have h3:N=[]:=Al.1 h2;subst h3;exact⟨a,c,rfl,λk hk=>by simp at hk⟩
 |imm cs len cap' b off c f hb hr hc hle hcell ht'=>
  injection ht with h1 h2;subst h1;subst h2;refine⟨_,c,rfl,λi hi=> ?_⟩;have hl:=nd_len N;have get:∀k (hk:k<4),∃t,(Ly.trees ndL N[i])[k]? =some t/\TR U w t (f (4*i+k))/\w.cell? ⟨b,off+(4*i+k),none⟩=some (f (4*i+k)):=λk hk=>(by have hlt:4*i+k<(N.flatMap (Ly.trees ndL)).length:=(by omega);have h1:=nd_at N i k hi hk;rw[A4 hlt]at h1;exact⟨_,h1.symm,ht' _ hlt,hcell _ hlt⟩);obtain⟨t0,a0,b0,c0⟩:=get 0 (by omega);obtain⟨t1,a1,b1,c1⟩:=get 1 (by omega);obtain⟨t2,a2,b2,c2⟩:=get 2 (by omega);obtain⟨t3,a3,b3,c3⟩:=get 3 (by omega);have a0:some (T.int .u8 N[i].1)=some t0:=a0;have a1:some (T.imm (N[i].2.1.flatMap (Ly.int .i64).trees) N[i].2.1.length none)=some t1:=a1;have a2:some (T.int .i64 N[i].2.2.1)=some t2:=a2;have a3:some (T.int .i64 N[i].2.2.2)=some t3:=a3;injection a0 with a0;injection a1 with a1;injection a2 with a2;injection a3 with a3;subst a0;subst a1;subst a2;subst a3;obtain⟨aj,kj,e1,hread⟩:=ints_read b1;rw[e1]at c1;refine⟨b,off,aj,kj,rfl,hr.lt,hr.lt,?_,c1,?_,?_,λp hp=> ?_⟩
  ·rw[show off+4*i=off+(4*i+0) by omega,c0];generalize f (4*i+0)=u at b0⊢;cases b0;rfl
  ·rw[c2];generalize f (4*i+2)=u at b2⊢;cases b2;rfl
  ·rw[c3];generalize f (4*i+3)=u at b3⊢;cases b3;rfl
  ·obtain⟨b',off',g1,g2,g3⟩:=hread p hp;exact⟨b',off',g1,g2,g2,g3⟩
 |_=>cases ht
end Fo
end
section
open Go.Abs Go.RowKit
namespace Fo
theorem out163(w:World)(n:Int)(bb len k:Nat)(a:Option Addr)(hc:w.cell? ⟨bb,0,none⟩=some (.slice a len k)):
  Calls Tryz.prog 163 #[.int .i64 n,.pointer (some ⟨bb,0,none⟩)] w λe w'=>e=.returned (.bool (decide (n<0)||decide (n>=(len:Int))))/\w'=w:=by
 by_cases h0:n<0
 ·go_enter Tryz.func163,Tryz.ntmps163
  go_wp2
  exact Bj (results_tmp rfl _ _ _) rfl ⟨by simp[h0],rfl⟩
 ·by_cases h1:n>=(len:Int)
  ·go_enter Tryz.func163,Tryz.ntmps163
   go_wp2
   exact Bj (results_tmp rfl _ _ _) rfl ⟨by simp[h0,h1],rfl⟩
  ·go_enter Tryz.func163,Tryz.ntmps163
   go_wp2
   exact Bj (results_tmp rfl _ _ _) rfl ⟨by simp[h0,h1],rfl⟩
theorem clip56(w:World)(a:Option Addr)(n k:Nat)(h:n<=k):Calls Tryz.prog 56 #[.slice a n k] w λe w'=>e=.returned (clip (.slice a n k))/\w'=w:=by
 go_enter Tryz.func56,Tryz.ntmps56
 go_wp2
 exact Bj (results_tmp rfl _ _ _) rfl ⟨rfl,rfl⟩
theorem make139(w:World)(v0 v1 v2 v3:Value):Calls Tryz.prog 139 #[.agg #[v0,v1,v2,v3]] w λe w'=>e=.returned (.func (.func 163) #[] #[.pointer (some ⟨w.heap.size,0,none⟩)])/\w'=w.alloc (.cells #[v0,v1,v2,v3] 34):=by
 have hmf:∀(fn:Fn) (first cap:Array Value) (w:World),(Instr.makeFunc fn first cap).run Tryz.prog w=.ok (.func fn first cap) w:=λ_ _ _ _=>rfl
 go_enter Tryz.func139,Tryz.ntmps139
 go_wp2
 exact Bj (results_tmp rfl _ _ _) rfl ⟨rfl,rfl⟩
theorem out_in(w:World)(n:Int)(bb len k:Nat)(a:Option Addr)(hc:w.cell? ⟨bb,0,none⟩=some (.slice a len k))(h0:0<=n)(h1:n<(len:Int)):
  Calls Tryz.prog 163 #[.int .i64 n,.pointer (some ⟨bb,0,none⟩)] w λe w'=>e=.returned (.bool false)/\w=w':=by
 refine(out163 w n bb len k a hc).mono ?_;rintro e w' ⟨rfl,rfl⟩;have e1:decide (n<0)=false:=AN (by omega);have e2:decide (n>=(len:Int))=false:=AN (by omega);rw[e1,e2];exact⟨rfl,rfl⟩
theorem out_out(w:World)(n:Int)(bb len k:Nat)(a:Option Addr)(hc:w.cell? ⟨bb,0,none⟩=some (.slice a len k))(h:¬(0<=n/\n<(len:Int))):
  Calls Tryz.prog 163 #[.int .i64 n,.pointer (some ⟨bb,0,none⟩)] w λe w'=>e=.returned (.bool true)/\w=w':=by
 refine(out163 w n bb len k a hc).mono ?_;rintro e w' ⟨rfl,rfl⟩;by_cases e1:n<0
 ·rw[AB e1];exact⟨rfl,rfl⟩
 ·rw[AB (show n>=(len:Int) by omega),CP];exact⟨rfl,rfl⟩
theorem info95:(Tryz.prog.info? 95).map (λi=>(i.zero,i.size,i.bytes))=some (some (.slice none 0 0),1,24):=by kernel_rfl
theorem info55:(Tryz.prog.info? 55).map (λi=>(i.zero,i.size,i.bytes))=some (some (.agg #[.int .i64 0,.int .i64 0]),2,16):=by kernel_rfl
def rdr(N:List NodeT)(i k:Nat)(j:Nat):List (Int×Int):=readers j (N.take i) 0++pinsOf j i ((N[i]?.getD (0,[],0,0)).2.1.take k) 0
theorem rdr_succ{N:List NodeT}{i q j:Nat}(hi:i<N.length)(hq:q<N[i].2.1.length):rdr N i (q+1) j=rdr N i q j++if N[i].2.1[q]=(j:Int) then [((i:Int),(q:Int))] else []:=by unfold rdr;rw[A4 hi,BC,<-List.take_append_getElem hq,pinsOf_snoc,Ac,AI,Ar,CS (by omega)]
theorem rdr_end{N:List NodeT}{i j:Nat}(hi:i<N.length):rdr N i N[i].2.1.length j=rdr N (i+1) 0 j:=by unfold rdr;rw[A4 hi,BC,Ak,CJ,<-List.take_append_getElem hi,readers_snoc,Ar,CS (by omega),AI];simp[pinsOf]
theorem rdr_all{N:List NodeT}{j:Nat}:rdr N N.length 0 j=readers j N 0:=by unfold rdr;rw[Ak,CJ];simp[pinsOf]
theorem pinsOf_len(j i:Nat):∀(l:List Int) (k:Nat),(pinsOf j i l k).length<=l.length
 |[],_=>A6 _
 |a::l,k=>by have:=pinsOf_len j i l (k+1);unfold pinsOf;split<;>simp<;>omega
theorem readers_len(j:Nat):∀(r:List NodeT) (i:Nat),(∀x∈r,x.2.1.length<=100)->(readers j r i).length<=r.length*100
 |[],_,_=>A6 _
 |x::r,i,h=>by have h1:=readers_len j r (i+1) λy hy=>h y (CE _ hy);have h2:=pinsOf_len j i x.2.1 0;have h3:=h x (Bk ..);unfold readers;rw[AL,As];omega
theorem rdr_len{N:List NodeT}{i q j:Nat}(hl:N.length<=100)(hp:∀x∈N,x.2.1.length<=100)(hi:i<N.length)(hq:q<=100):(rdr N i q j).length<=10100:=by
 unfold rdr;rw[AL];have h1:=readers_len j (N.take i) 0 λx hx=>hp x (CX hx);have h2:=pinsOf_len j i (((N[i]?.getD (0,[],0,0)).2.1).take q) 0;have h3:(N.take i).length<=100:=by rw[Ar];omega
 have h4:(((N[i]?.getD (0,[],0,0)).2.1).take q).length<=q:=by rw[Ar];omega
 have h5:(N.take i).length*100<=100*100:=Ah _ h3;omega
theorem Fan.congr{W:World}{lo g n i:Nat}{rv:Nat->Value}{L L':Nat->List (Int×Int)}(h:Fan W lo g n i rv L)(he:∀j,j<n->L j=L' j):Fan W lo g n i rv L':=
 ⟨h.top,h.low,λj hj=>he j hj▸h.row j hj,h.apart⟩
theorem fan_walk(w:World)(vn v1 v2 v3:Value)(N:List NodeT)(hN:NodesAt w w.heap.size vn N)(hl:N.length<=100)(hp:∀x∈N,x.2.1.length<=100):
  Calls Tryz.prog 106 #[.agg #[vn,v1,v2,v3]] w λe w'=>∃g rv,e=.returned (.slice (some ⟨g,0,none⟩) N.length N.length)/\Fan w' w.heap.size g N.length N.length rv (λj=>readers j N 0)/\Aw.Bel w.heap.size w w':=by
 obtain⟨a,k,rfl,_⟩:=hN.ex;obtain⟨i0,hi,hz0,hz1,hz2⟩:=info_parts info95;obtain⟨i1,hj,hy0,hy1,hy2⟩:=info_parts info55
 go_enter Tryz.func106,Tryz.ntmps106
 go_wp2_with (first|(at_make;refine wpList_make_full _ rfl _ _ 215 rfl w.heap.size 95 i0 _ 1 Tryz.underlying215 hi hz0 hz1 .i64 .i64 _ _ N.length rfl rfl rfl rfl ?b2 ?b3 ?b4 ?_))
 case b2=>rw[hz2];omega
 case b3=>simp[maxLen];omega
 case b4=>simp
 intro w1 ho1 hg1;have hb1:w1.heap[w.heap.size]? =some (.cells #[.slice a N.length k,v1,v2,v3] 34 (0,0)):=(hg1.block _ (by simp) (by simp)).trans (Bm _ _);have c0:w1.cell? ⟨w.heap.size,0,none⟩=some (.slice a N.length k):=by simp[World.cell?,hb1]
 have c1:w1.cell? ⟨w.heap.size,1,none⟩=some v1:=by simp[World.cell?,hb1]
 have c2:w1.cell? ⟨w.heap.size,2,none⟩=some v2:=by simp[World.cell?,hb1]
 have c3:w1.cell? ⟨w.heap.size,3,none⟩=some v3:=by simp[World.cell?,hb1]
 go_wp2_with (go_at_call 139;refine(make139 _ _ _ _ _).mono ?_)
 rintro e w2 ⟨rfl,hw2⟩;have h1s:w1.heap.size>=w.heap.size+2:=by have:=(ho1.lt _ rfl).2;simp at this;omega
 have hlt1:w.heap.size<w1.heap.size:=by omega
 have hb2:w2.heap[w.heap.size]? =some (.cells #[.slice a N.length k,v1,v2,v3] 34 (0,0)):=by rw[hw2];exact(Below.heap_alloc w1 _ _ hlt1).trans hb1
 have hbx2:w2.heap[w1.heap.size]? =some (.cells #[.slice a N.length k,v1,v2,v3] 34 (0,0)):=by rw[hw2];exact Bm _ _
 have hB2:Aw.Bel w.heap.size w w2:=by rw[hw2];have hA:Aw.Bel w.heap.size w (w.alloc (.cells #[.slice a N.length k,v1,v2,v3] 34)):=Aw.Bel.alloc _ (A6 _);have hM:Aw.Bel w.heap.size (w.alloc (.cells #[.slice a N.length k,v1,v2,v3] 34)) w1:=⟨hg1.os,hg1.output,hg1.size,λb hb=>hg1.block b (by simp;omega) (by simp)⟩;exact(hA.trans hM).trans (Aw.Bel.alloc _ (by omega))
 have hs0:(w.alloc (.cells #[.slice a N.length k,v1,v2,v3] 34)).heap.size=w.heap.size+1:=by simp
 have hF2:Fan w2 w.heap.size (w.heap.size+1) N.length 0 (λ_=>.slice none 0 0) (rdr N 0 0):=by
  rw[hw2];refine Fan.alloc ⟨?_,by omega,λj hj=> ?_,λj j' _ _ _=>.inl rfl⟩ _
  ·rcases ho1.2 with ⟨h,_⟩|⟨g,cap,cur,e1,_,e2,_,_,e3,e4⟩
   ·cases h
   ·injection e1 with e1 _ e5;injection e1 with e1;injection e1 with e1;subst e1;subst e5;rw[e2];have h5:cur.toList=(madeCells #[.slice none 0 0] (N.length*1)).toList:=(by have:List.take (N.length*1) cur.toList=cur.toList:=AJ (by simp[e3]);rw[<-this,e4,Nat.mul_one]);rw[Array.toList_inj.1 h5];congr 2;refine CV (by simp[madeCells]) λq q1 q2=> ?_;simp[madeCells,Nat.mod_one]
  ·have e:rdr N 0 0 j=[]:=(by simp[rdr,readers,pinsOf]);rw[e];exact World.ownsRow_nil _ _ _ _
 clear hw2;have d0:w2.cell? ⟨w.heap.size,0,none⟩=some (.slice a N.length k):=by simp[World.cell?,hb2]
 go_wp2
 have h2s:=hB2.size;have h2l:=(A8.1 hbx2).1;clear d0 c0 c1 c2 c3
 go_loopw [20] (λp wr=>∃(i:Nat) (rv:Nat->Value),p=.int .i64 i/\i<=N.length/\Fan wr w.heap.size (w.heap.size+1) N.length 0 rv (rdr N i 0)/\Aw.Bel w.heap.size w wr/\wr.heap[w1.heap.size]? =some (.cells #[.slice a N.length k,v1,v2,v3] 34 (0,0))/\w1.heap.size<wr.heap.size) (λp _=>N.length - (intOf p).toNat)
 case atStart=>exact⟨0,_,rfl,B0 _,hF2,hB2,hbx2,h2l⟩
 case round=>
  obtain⟨i,rv,rfl,hin,hF,hB,hbx,hwl⟩:=hrel;have hNw:=hN.keep hB.size hB.block;obtain⟨a',k',hh,hread⟩:=hNw.ex;cases hh;by_cases hil:i<N.length
  ·obtain⟨b,off,aj,kj,rfl,hbB,hbs,r0,r1,r2,r3,r4⟩:=hread i hil;rw[show off+4*i=off+i*4 by omega]at r0;rw[show off+(4*i+1)=off+i*4+1 by omega]at r1;rw[show off+(4*i+2)=off+i*4+2 by omega]at r2;rw[show off+(4*i+3)=off+i*4+3 by omega]at r3;clear hread;have hNi:N[i]?.getD (0,[],0,0)=N[i]:=(by rw[A4 hil];rfl);have hpl:=hp _ (AH hil);obtain⟨wo,hwo⟩:∃wo,wo=wr:=⟨_,rfl⟩;have hFo:Fan wo w.heap.size (w.heap.size+1) N.length 0 rv (rdr N i 0):=hwo▸hF;have hBo:Aw.Bel w.heap.size w wo:=hwo▸hB;have hbo:wo.heap[w1.heap.size]? =some (.cells #[.slice (some ⟨b,off,none⟩) N.length k,v1,v2,v3] 34 (0,0)):=hwo▸hbx;have hwlo:w1.heap.size<wo.heap.size:=hwo▸hwl;have hread4:∀p (hp:p<N[i].2.1.length),∃b' off',aj=some ⟨b',off',none⟩/\b'<w.heap.size/\w.cell? ⟨b',off'+p,none⟩=some (.int .i64 N[i].2.1[p]):=λp hp=>(by obtain⟨b',off',g1,g2,g3,g4⟩:=r4 p hp;exact⟨b',off',g1,g2,(BL (hB.block b' g2)).symm.trans g4⟩);clear r4
   go_wp2
   clear hF hB hbx hwl r0 r1 r2 r3;subst hwo
   go_loopw [28] (λp wi=>∃(q:Nat) (rv:Nat->Value),p=.int .i64 q/\q<=N[i].2.1.length/\Fan wi w.heap.size (w.heap.size+1) N.length 0 rv (rdr N i q)/\Aw.Bel w.heap.size w wi/\wi.heap[w1.heap.size]? =some (.cells #[.slice (some ⟨b,off,none⟩) N.length k,v1,v2,v3] 34 (0,0))/\w1.heap.size<wi.heap.size) (λp _=>N[i].2.1.length - (intOf p).toNat)
   case atStart=>exact⟨0,rv,rfl,B0 _,hFo.alloc _,hBo.trans (Aw.Bel.alloc _ hBo.size),(Below.heap_alloc _ _ _ hwlo).trans hbo,by simp;omega⟩
   case round=>
    obtain⟨q,rv',rfl,hqn,hF,hB,hbx,hwl⟩:=hrel;by_cases hql:q<N[i].2.1.length
    ·obtain⟨b',off',rfl,g2,g3⟩:=hread4 q hql;have hcell:wr.cell? ⟨b',off'+q,none⟩=some (.int .i64 N[i].2.1[q]):=(BL (hB.block b' g2)).trans g3;have hbc:wr.cell? ⟨w1.heap.size,0,none⟩=some (.slice (some ⟨b,off,none⟩) N.length k):=(by simp[World.cell?,hbx]);clear g3 hread4;obtain⟨x,hx⟩:∃x,x=N[i].2.1[q]:=⟨_,rfl⟩;rw[<-hx]at hcell;have HX:Hid (x=N[i].2.1[q]):=hx;clear hx;by_cases hxr:0<=x/\x<(N.length:Int)
     ·obtain⟨j,rfl⟩:∃j:Nat,x=(j:Int):=⟨x.toNat,by omega⟩;have hjn:j<N.length:=(by omega);obtain⟨ra,rk,hrv,hrk⟩:=hF.slice hjn;obtain⟨f1,f2⟩:=hF.at hjn;rw[AP (by omega),hrv]at f1;have hrow:=hF.row j hjn;have HS:=λ(v':Value) (W1:World) (h1:W1.ownsRow w.heap.size 55 2 v' ((rdr N i q j).length+1) (lnC (rdr N i q j)++[.int .i64 (i:Int),.int .i64 (q:Int)]))=>(hF.alloc (.cells #[.int .i64 (i:Int),.int .i64 (q:Int)] 55)).step hjn (v':=v') (W1:=W1) (a:=(i:Int)) (b:=(q:Int)) h1;have HT:=(hF.alloc (.cells #[.int .i64 (i:Int),.int .i64 (q:Int)] 55)).top;have HN:=own_ne (hrow.alloc (.cells #[.int .i64 (i:Int),.int .i64 (q:Int)] 55)) HT (by decide);rw[hrv]at hrow HS HN;generalize hlen:(rdr N i q j).length=ln at hrow hrv f1 HS HN hrk;have hln:ln<=10100:=by rw[<-hlen];exact rdr_len hl hp (by omega) (by omega)
      go_wp2_with (first|(go_at_call 163;refine(out_in _ _ _ _ _ _ hbc (by omega) (by omega)).mono ?_;rintro e w5 ⟨rfl,rfl⟩)|(at_builtin;go_loud (refine wpList_append_own_at _ rfl _ _ 95 rfl w.heap.size 55 i1 (.agg #[.int .i64 0,.int .i64 0]) 2 16 Tryz.underlying95 hj hy0 hy1 hy2 rfl (by decide) (.slice ra ln rk) ln _ rfl (hrow.alloc _) ⟨wr.heap.size,0,none⟩ 1 1 [.int .i64 (i:Int),.int .i64 (q:Int)] rfl rfl ?p1 ?p2 ?p3 ?p4 ?p5 ?_)))
      case p1=>
       intro j' u hj'
       match j',hj' with
       |0,hj'=>simp at hj';subst hj';simp[Addr.add]
       |1,hj'=>simp at hj';subst hj';simp[Addr.add]
      case p2=>intro u hu;simp at hu;rcases hu with rfl|rfl<;>rfl
      case p3=>unfold maxLen;omega
      case p4=>omega
      case p5=>have:=hB.size;simp;omega
      intro v' w6 hown6 hgrow6 _ hat6;have hFan:=HS v' w6 hown6 hgrow6 (by simpa using hat6);obtain⟨av,kv,rfl⟩:∃a k,v'=.slice a (ln+1) k:=by
       rcases hown6.2 with ⟨h,h'⟩|⟨g,cap,cur,h,_⟩
       ·omega
       ·exact⟨_,_,h⟩
      have hT6:w6.heap[w.heap.size+1]? =some (.cells ((List.range N.length).map λj=>if j<0 then clip (rv' j) else rv' j).toArray 95 (0,0)):=(hgrow6.block _ (A8.1 HT).1 (λe=>HN e.symm)).trans HT;have f6:w6.cell? ⟨w.heap.size+1,j,none⟩=some (rv' j):=(by simp[World.cell?,hT6,hjn]);have f7:w6.frozen? ⟨w.heap.size+1,j,none⟩=false:=(by simp[World.frozen?,hT6]);have hB6:Aw.Bel w.heap.size w w6:=hB.trans ((Aw.Bel.alloc _ hB.size).trans ⟨hgrow6.os,hgrow6.output,hgrow6.size,λc hc=>hgrow6.block c (by have:=hB.size;simp;omega) (λe=>by
       have:=(hrow.lt c e.symm).1;omega)⟩)
      have hbx6:w6.heap[w1.heap.size]? =some (.cells #[.slice (some ⟨b,off,none⟩) N.length k,v1,v2,v3] 34 (0,0)):=(hgrow6.block _ (by simp;omega) (λe=>own_ne (hrow.alloc (.cells #[.int .i64 (i:Int),.int .i64 (q:Int)] 55)) ((Below.heap_alloc _ _ _ hwl).trans hbx) (by decide) e.symm)).trans ((Below.heap_alloc _ _ _ hwl).trans hbx);have hs6:wr.heap.size+1<=w6.heap.size:=(by have:=hgrow6.size;simpa using this);clear hown6 hgrow6 hat6 HS HT HN hT6 f1 f2 hrow
      go_wp2
      go_roundw
      case rel=>
       refine⟨q+1,_,by simp,by omega,hFan.congr λj' hj'=> ?_,hB6.trans (Aw.Bel.setCell _ _ (by simp)),(Below.heap_setCell _ _ _ _ (by show w1.heap.size≠w.heap.size+1;omega)).trans hbx6,by simp;omega⟩;rw[rdr_succ hil hql];have hx:((j:Nat):Int)=N[i].2.1[q]:=HX.out;rw[<-hx];by_cases e:j'=j
       ·subst e;simp
       ·rw[AP e,AP (λh=>e (by omega)),Br]
      case measure=>simp[intOf];omega
     ·have hF':Fan wr w.heap.size (w.heap.size+1) N.length 0 rv' (rdr N i (q+1)):=hF.congr λj' hj'=>by rw[rdr_succ hil hql];have hx:x=N[i].2.1[q]:=HX.out;rw[<-hx,AP (λh=>hxr (by omega)),Br]
      go_wp2_with (first|(go_at_call 163;refine(out_out _ _ _ _ _ _ hbc hxr).mono ?_;rintro e w5 ⟨rfl,rfl⟩))
      go_roundw
      case rel=>exact⟨q+1,rv',by simp,by omega,hF',hB,hbx,hwl⟩
      case measure=>simp[intOf];omega
    ·have hqe:q=N[i].2.1.length:=(by omega);subst hqe;clear hread4;have hF':Fan wr w.heap.size (w.heap.size+1) N.length 0 rv' (rdr N (i+1) 0):=hF.congr λj' hj'=>rdr_end hil
     go_wp2
     go_roundw
     case rel=>exact⟨i+1,rv',by simp,by omega,hF',hB,hbx,hwl⟩
     case measure=>simp[intOf];omega
  ·have hie:i=N.length:=(by omega);subst hie;clear hread hNw;have hF':Fan wr w.heap.size (w.heap.size+1) N.length 0 rv (λj=>readers j N 0):=hF.congr λj' hj'=>rdr_all;clear hF hbx hwl hB2 hF2 hb2 hbx2 h2s h2l
   go_wp2
   go_loopw [53] (λp wi=>∃(i:Nat),p=.int .i64 i/\i<=N.length/\Fan wi w.heap.size (w.heap.size+1) N.length i rv (λj=>readers j N 0)/\Aw.Bel w.heap.size w wi) (λp _=>N.length - (intOf p).toNat)
   case atStart=>exact⟨0,rfl,B0 _,hF',hB⟩
   case round=>
    obtain⟨i,rfl,hin,hF,hB⟩:=hrel;by_cases hil:i<N.length
    ·obtain⟨ra,rk,hrv,hrk⟩:=hF.slice hil;obtain⟨f1,f2⟩:=hF.at hil;rw[AP (by omega),hrv]at f1;have hC:=hF.clip1 hil;rw[hrv]at hC;have e1:clip (.slice ra (readers i N 0).length rk)=.slice ra (readers i N 0).length (readers i N 0).length:=rfl;rw[e1]at hC;generalize (readers i N 0).length=ln at hrk f1 hC hrv e1
     go_wp2_with (first|(go_at_call 56;refine(clip56 _ _ _ _ hrk).mono ?_;rintro e w5 ⟨rfl,h5⟩;have h5:=h5.symm;subst h5;rw[e1]))
     go_roundw
     case rel=>exact⟨i+1,by simp,by omega,hC,hB.trans (Aw.Bel.setCell _ _ (by simp))⟩
     case measure=>simp[intOf];omega
    ·have hie:i=N.length:=(by omega);subst hie
     go_wp2
     exact Bj (results_tmp rfl _ _ _) rfl ⟨_,rv,rfl,hF,hB⟩
end Fo
end
section
open Go.Abs
namespace Aw
theorem fn_bel2{f:FuncId}{args:List AV}{v:AV}(hc:XB Tryz.prog f)
  (h:∀ι w cargs,HR ι [] w->Yn ι w args cargs->Calls Tryz.prog f cargs w λe w'=>(∃cv,e=.returned cv/\VR ι w' v cv)/\Bel w.heap.size w w'):
  Qo Tryz.prog f args [] λu τ=>u=v/\τ=[]:=by
 refine⟨hc,fun ι w cargs _ hH ha=> ?_⟩;refine BI (CZ.2 (h ι w cargs hH ha)) λe w' ⟨⟨cv,he,hv⟩,hb⟩=> ?_;have hs:Step ι [] w ι [] w':=⟨A6 _,hb.size,hb.os,hb.out,λid s h1=>⟨s,h1,A6 _,λ_=>rfl⟩,λid _ h1=>h1,λid s l h1 h2=>.inr ⟨id,s,l,h1,h2,rfl⟩,rfl,rfl,λb hr=>hb.block b (hH.resRow b hr).lt,λb h1 _=>hb.block b h1⟩;refine⟨v,[],ι,cv,he,⟨rfl,rfl⟩,hv,⟨λid s h1=> ?_,hH.inj,λb hr=> ?_,hH.resNo⟩,hs⟩
 ·obtain⟨o,h2,_⟩:=hH.obj id s h1;simp at h2
 ·obtain⟨c,e,fr,h2⟩:=hH.resRow b hr;exact⟨c,e,fr,(hb.block b (A8.1 h2).1).trans h2⟩
theorem un_new{ι:Map}{w:World}(hH:HR ι [] w){b:Nat}(hb:w.heap.size<=b):ι.un b:=λhm=>by
 rcases hm with ⟨id,s,l,h1,h2,h3⟩|hr
 ·obtain⟨o,h4,_⟩:=hH.obj id s h1;simp at h4
 ·have:=(hH.resRow b hr).lt;omega
theorem args_four{ι:Map}{w:World}{a b c d:Cell}{cargs:Array Value}(ha:Yn ι w [.agg [a,b,c,d]] cargs):∃v0 v1 v2 v3,cargs= #[.agg #[v0,v1,v2,v3]]/\CR ι w a v0/\CR ι w b v1/\CR ι w c v2/\CR ι w d v3:=by
 obtain⟨u,e0,arr,rfl,hsz,hv⟩:=ha.2 0 Nat.one_pos;have hsz:arr.size=4:=hsz;obtain⟨v0,q0,t0⟩:=hv 0 (show 0<4 by omega);obtain⟨v1,q1,t1⟩:=hv 1 (show 1<4 by omega);obtain⟨v2,q2,t2⟩:=hv 2 (show 2<4 by omega);obtain⟨v3,q3,t3⟩:=hv 3 (show 3<4 by omega);refine⟨v0,v1,v2,v3,?_,t0,t1,t2,t3⟩;have harr:arr= #[v0,v1,v2,v3]:=by
  refine CV (by rw[hsz];rfl) λj hj _=> ?_;have hj:j<4:=(by omega);rcases (show j=0\/j=1\/j=2\/j=3 by omega) with rfl|rfl|rfl|rfl
  ·exact(A8.1 q0).2
  ·exact(A8.1 q1).2
  ·exact(A8.1 q2).2
  ·exact(A8.1 q3).2
 have h1:cargs.size=1:=ha.1;refine CV h1 λj hj _=> ?_;obtain rfl:j=0:=by omega
 rw[<-harr];exact(A8.1 e0).2
end Aw
namespace M106
structure gX where(nodes:List ((Int)×(List (Int))×(Int)×Int))(names:List (List UInt8))(mems:List ((List (Int))×(List (Int))×Int))(outs:List (Int))
def g:Sg gX:=⟨[.agg [.arr (.pair (.int .u8) (.pair (.sl (.int .i64)) (.pair (.int .i64) (.int .i64)))),.arr .str,.arr (.pair (.sl (.int .i64)) (.pair (.sl (.int .i64)) (.int .i64))),.arr (.int .i64)]],[],λa b=>⟨a.1.1,a.1.2.1,a.1.2.2.1,a.1.2.2.2.1⟩,λx=>((x.nodes,(x.names,(x.mems,(x.outs,())))),()),λx=>()⟩
abbrev fY:=List (List (Int×Int))
def f:Ft fY:=⟨none,.c (.arr (.sl (.pair (.int .i64) (.int .i64)))),[],λa b=>(a),λy=>y,λy=>()⟩
def m(x:gX):Option fY:=if x.nodes.length<=100/\∀y∈x.nodes,y.2.1.length<=100 then some ((List.range x.nodes.length).map λn=>readers n x.nodes 0) else none
theorem callable106:XB Tryz.prog 106:=⟨Tryz.f106,Tryz.func106,by kernel_rfl,by kernel_rfl⟩
theorem known:QB Tryz.prog 106 g f m:=by
 refine⟨λ_ _=>⟨rfl,rfl⟩,by decide,λ⟨nodes,names,mems,outs⟩ y h=> ?_⟩;by_cases hk:nodes.length<=100/\∀y∈nodes,y.2.1.length<=100
 ·have h:(if nodes.length<=100/\∀y∈nodes,y.2.1.length<=100 then some ((List.range nodes.length).map λn=>readers n nodes 0) else none)=some y:=h;rw[AF hk]at h;obtain rfl:=Aq h;refine Aw.fn_bel2 callable106 fun ι w cargs hH ha=> ?_;obtain⟨v0,v1,v2,v3,rfl,t0,_,_,_⟩:=Aw.args_four ha;have t0:TR ι.un w (.imm (nodes.flatMap (Ly.trees Fo.ndL)) nodes.length none) v0:=t0;refine(Fo.fan_walk w v0 v1 v2 v3 nodes (Fo.nodes_read t0) hk.1 hk.2).mono ?_;rintro e w' ⟨g,rv,rfl,hF,hB⟩;exact⟨⟨_,rfl,hF.tree (U:=ι.un) λb hb=>Aw.un_new hH hb⟩,hB⟩
 ·have h:(if nodes.length<=100/\∀y∈nodes,y.2.1.length<=100 then some ((List.range nodes.length).map λn=>readers n nodes 0) else none)=some y:=h;rw[AP hk]at h;cases h
def con:Con:=Qa g f m default
theorem con_ok:QC Tryz.prog 106 con:=Q9 known (λ_=>rfl) rfl
end M106
end
section
open Go.Abs
namespace M113
structure gX where(nodes:List ((Int)×(List (Int))×(Int)×Int))(names:List (List UInt8))(mems:List ((List (Int))×(List (Int))×Int))(outs:List (Int))
def g:Sg gX:=⟨[.agg [.arr (.pair (.int .u8) (.pair (.sl (.int .i64)) (.pair (.int .i64) (.int .i64)))),.arr .str,.arr (.pair (.sl (.int .i64)) (.pair (.sl (.int .i64)) (.int .i64))),.arr (.int .i64)]],[],λa b=>⟨a.1.1,a.1.2.1,a.1.2.2.1,a.1.2.2.2.1⟩,λx=>((x.nodes,(x.names,(x.mems,(x.outs,())))),()),λx=>()⟩
abbrev fY:=Int
def f:Ft fY:=⟨none,.c (.it .i64),[],λa b=>(a),λy=>y,λy=>()⟩
def cl:List (FuncId×Con):=[(142,M142.con),(143,M143.con),(139,M139.con),(145,M145a.con)]
theorem cl_ok:Q8 Tryz.prog cl:=⟨M142.con_ok,M143.con_ok,M139.con_ok,M145a.con_ok,trivial⟩
def E2:Env:=⟨ty,QE cl,λ_=>none,none⟩
structure p1X where(ms:List ((List (Int))×(List (Int))×Int))(n i:Int)(nodes:List ((Int)×(List (Int))×(Int)×Int))(names:List (List UInt8))(mems:List ((List (Int))×(List (Int))×Int))(outs:List (Int))
def p1:Pt p1X where
 own:=[]
 t:=⟨[(1,.c (.ptr 0 0)),(55,.c (.arr (.pair (.sl (.int .i64)) (.pair (.sl (.int .i64)) (.int .i64))))),(56,.c (.it .i64)),(57,.c (.it .i64))],[.st [.arr (.pair (.int .u8) (.pair (.sl (.int .i64)) (.pair (.int .i64) (.int .i64)))),.arr .str,.arr (.pair (.sl (.int .i64)) (.pair (.sl (.int .i64)) (.int .i64))),.arr (.int .i64)] 1 0]⟩
 to:=λv=>⟨v.1.2.1,v.1.2.2.1,v.1.2.2.2.1,v.2.1.1,v.2.1.2.1,v.2.1.2.2.1,v.2.1.2.2.2.1⟩
 fr:=λx=>(((),(x.ms,(x.n,(x.i,())))),((x.nodes,(x.names,(x.mems,(x.outs,())))),()))
structure q1X where(nodes:List ((Int)×(List (Int))×(Int)×Int))(names:List (List UInt8))(mems:List ((List (Int))×(List (Int))×Int))(outs:List (Int))
def q1:Pt q1X where
 own:=[]
 t:=⟨[(1,.c (.ptr 0 0))],[.st [.arr (.pair (.int .u8) (.pair (.sl (.int .i64)) (.pair (.int .i64) (.int .i64)))),.arr .str,.arr (.pair (.sl (.int .i64)) (.pair (.sl (.int .i64)) (.int .i64))),.arr (.int .i64)] 1 0]⟩
 to:=λv=>⟨v.2.1.1,v.2.1.2.1,v.2.1.2.2.1,v.2.1.2.2.2.1⟩
 fr:=λx=>(((),()),((x.nodes,(x.names,(x.mems,(x.outs,())))),()))
structure z1X where(r:Int)
def z1:Pt z1X where
 own:=[]
 t:=⟨[(2,.c (.it .i64))],[]⟩
 to:=λv=>⟨v.1.1⟩
 fr:=λx=>((x.r,()),())
def s1(x:p1X):Option (p1X⊕(q1X⊕z1X)):=bif decide (x.i<x.n) then bif inR x.i x.ms.length then none else none else some (Sum.inr (Sum.inl ⟨x.nodes,x.names,x.mems,x.outs⟩))
theorem s1_eq(x:p1X):exec E2 73 (C113.Q0 1) 2 (p1.R x) (p1.H x) (J9 0 p1 (.exit 3) q1 .ret z1)=s1 x:=by kernel_rfl
def l1:QJ:=JA 0 p1 (.exit 3) q1 .ret z1 s1
theorem tl1:QA (C113.Q0 1) 2=[]:=by kernel_rfl
theorem l1_ok  :QF Tryz.prog 73 none 0 (C113.Q0 1) l1:=Qd mixed (Q4 ty_ok cl_ok _) (by trivial) (by trivial) (λ_=>rfl) (λ_=>rfl) (λ_=>rfl) (tl1▸Q7.nil) s1_eq
def E1:Env:=⟨ty,QE cl,Qi [(1,l1)],none⟩
structure p0X where(ns:List ((Int)×(List (Int))×(Int)×Int))(n i:Int)(nodes:List ((Int)×(List (Int))×(Int)×Int))(names:List (List UInt8))(mems:List ((List (Int))×(List (Int))×Int))(outs:List (Int))
def p0:Pt p0X where
 own:=[]
 t:=⟨[(1,.c (.ptr 0 0)),(36,.c (.arr (.pair (.int .u8) (.pair (.sl (.int .i64)) (.pair (.int .i64) (.int .i64)))))),(37,.c (.it .i64)),(38,.c (.it .i64))],[.st [.arr (.pair (.int .u8) (.pair (.sl (.int .i64)) (.pair (.int .i64) (.int .i64)))),.arr .str,.arr (.pair (.sl (.int .i64)) (.pair (.sl (.int .i64)) (.int .i64))),.arr (.int .i64)] 1 0]⟩
 to:=λv=>⟨v.1.2.1,v.1.2.2.1,v.1.2.2.2.1,v.2.1.1,v.2.1.2.1,v.2.1.2.2.1,v.2.1.2.2.2.1⟩
 fr:=λx=>(((),(x.ns,(x.n,(x.i,())))),((x.nodes,(x.names,(x.mems,(x.outs,())))),()))
structure q0X where(nodes:List ((Int)×(List (Int))×(Int)×Int))(names:List (List UInt8))(mems:List ((List (Int))×(List (Int))×Int))(outs:List (Int))
def q0:Pt q0X where
 own:=[]
 t:=⟨[(1,.c (.ptr 0 0))],[.st [.arr (.pair (.int .u8) (.pair (.sl (.int .i64)) (.pair (.int .i64) (.int .i64)))),.arr .str,.arr (.pair (.sl (.int .i64)) (.pair (.sl (.int .i64)) (.int .i64))),.arr (.int .i64)] 1 0]⟩
 to:=λv=>⟨v.2.1.1,v.2.1.2.1,v.2.1.2.2.1,v.2.1.2.2.2.1⟩
 fr:=λx=>(((),()),((x.nodes,(x.names,(x.mems,(x.outs,())))),()))
structure z0X where(r:Int)
def z0:Pt z0X where
 own:=[]
 t:=⟨[(2,.c (.it .i64))],[]⟩
 to:=λv=>⟨v.1.1⟩
 fr:=λx=>((x.r,()),())
def s0(x:p0X):Option (p0X⊕(q0X⊕z0X)):=bif decide (x.i<x.n) then bif inR x.i x.ns.length then bindO (M142.m ⟨x.nodes,x.names,x.mems,x.outs,(x.ns[x.i.toNat]?.getD (0,[],0,0)).1,(x.ns[x.i.toNat]?.getD (0,[],0,0)).2.1,(x.ns[x.i.toNat]?.getD (0,[],0,0)).2.2.1,(x.ns[x.i.toNat]?.getD (0,[],0,0)).2.2.2⟩) λy=>bif y !=0 then some (Sum.inr (Sum.inr ⟨y⟩)) else some (Sum.inl ⟨x.ns,x.n,IntKind.i64.wrap (x.i+1),x.nodes,x.names,x.mems,x.outs⟩) else none else some (Sum.inr (Sum.inl ⟨x.nodes,x.names,x.mems,x.outs⟩))
theorem s0_eq(x:p0X):exec E1 73 (C113.Q0 0) 1 (p0.R x) (p0.H x) (J9 0 p0 (.exit 1) q0 .ret z0)=s0 x:=by kernel_rfl
def l0:QJ:=JA 0 p0 (.exit 1) q0 .ret z0 s0
theorem tl0:QA (C113.Q0 0) 1=[]:=by kernel_rfl
theorem l0_ok  :QF Tryz.prog 73 none 0 (C113.Q0 0) l0:=Qd mixed (Q4 ty_ok cl_ok _) (by trivial) (by trivial) (λ_=>rfl) (λ_=>rfl) (λ_=>rfl) (tl0▸Q7.nil) s0_eq
def E0:Env:=⟨ty,QE cl,Qi [(0,l0),(1,l1)],none⟩
def m(x:gX):Option fY:=bif bif bif decide ((↑x.nodes.length:Int)>16384) then true else decide ((↑x.mems.length:Int)>16) then true else decide ((↑x.outs.length:Int)>16384) then some 3 else bif (↑x.names.length:Int) !=(↑x.nodes.length:Int) then some 8 else bindO (iter s0 ⟨x.nodes,(↑x.nodes.length:Int),0,x.nodes,x.names,x.mems,x.outs⟩) λs=>sumC s (λy=>bindO (M143.m ⟨y.nodes,y.names,y.mems,y.outs⟩) λy_1=>bif y_1 !=0 then some y_1 else bindO (iter s1 ⟨y.mems,(↑y.mems.length:Int),0,y.nodes,y.names,y.mems,y.outs⟩) λs=>sumC s (λy=>bindO (M139.m ⟨y.nodes,y.names,y.mems,y.outs⟩) λy_2=>bindO (M145a.m ⟨y.outs,y_2.1,y_2.2.1,y_2.2.2.1,y_2.2.2.2⟩) λy=>bif y.1 then some 1 else some 0) λz=>some z.r) λz=>some z.r
theorem m_eq(x:gX):exec E0 73 C113 0 (QD 0 (g.A x)) (g.H x) (finish 0 ty [.tmp 2] f)=m x:=by kernel_rfl
theorem tl:QA C113 0=[(0,C113.Q0 0),(1,C113.Q0 1)]:=by kernel_rfl
theorem known:QB Tryz.prog 113 g f m:=
 Q5 mixed (Q4 ty_ok cl_ok _) s113 rfl rfl tl (Q7.cons rfl l0_ok (Q7.cons rfl l1_ok Q7.nil)) (λ_ _=>⟨rfl,rfl⟩) (λ_ _=>⟨rfl,rfl⟩) m_eq
def con:Con:=Qa g f m default
theorem con_ok:QC Tryz.prog 113 con:=Q9 known (λ_=>rfl) rfl
end M113
namespace M71
structure gX where(nodes:List ((Int)×(List (Int))×(Int)×Int))(names:List (List UInt8))(mems:List ((List (Int))×(List (Int))×Int))(outs:List (Int))
def g:Sg gX:=⟨[.agg [.arr (.pair (.int .u8) (.pair (.sl (.int .i64)) (.pair (.int .i64) (.int .i64)))),.arr .str,.arr (.pair (.sl (.int .i64)) (.pair (.sl (.int .i64)) (.int .i64))),.arr (.int .i64)]],[],λa b=>⟨a.1.1,a.1.2.1,a.1.2.2.1,a.1.2.2.2.1⟩,λx=>((x.nodes,(x.names,(x.mems,(x.outs,())))),()),λx=>()⟩
abbrev fY:=List (Int)×Int
def f:Ft fY:=⟨none,.tup [.inl (.arr (.int .i64)),.inl (.it .i64)],[],λa b=>(a.1,a.2.1),λy=>(y.1,(y.2,())),λy=>()⟩
def cl:List (FuncId×Con):=[(113,M113.con),(43,M43.con),(106,M106.con)]
theorem cl_ok:Q8 Tryz.prog cl:=⟨M113.con_ok,M43.con_ok,M106.con_ok,trivial⟩
def E3:Env:=⟨ty,QE cl,λ_=>none,none⟩
structure p2X where(out_lo out_len out_cap left_lo left_len left_cap ready_lo ready_len:Nat)(fan:List (List ((Int)×Int)))(done k:Int)(l:List ((Int)×Int))(n i:Int)(nodes:List ((Int)×(List (Int))×(Int)×Int))(names:List (List UInt8))(mems:List ((List (Int))×(List (Int))×Int))(outs lev lft rdy:List (Int))
def p2:Pt p2X where
 own:=[]
 t:=⟨[(1,.c (.ptr 0 0)),(5,.c (.slc 1 0 1)),(6,.c (.slc 2 0 1)),(7,.c (.sl 3 0 1)),(10,.c (.arr (.sl (.pair (.int .i64) (.int .i64))))),(11,.c (.it .i64)),(12,.c (.it .i64)),(76,.c (.arr (.pair (.int .i64) (.int .i64)))),(77,.c (.it .i64)),(78,.c (.it .i64))],[.st [.arr (.pair (.int .u8) (.pair (.sl (.int .i64)) (.pair (.int .i64) (.int .i64)))),.arr .str,.arr (.pair (.sl (.int .i64)) (.pair (.sl (.int .i64)) (.int .i64))),.arr (.int .i64)] 1 0,.arr (.int .i64) 0,.arr (.int .i64) 0,.arr (.int .i64) 0]⟩
 to:=λv=>⟨v.1.2.1.1,v.1.2.1.2.1,v.1.2.1.2.2,v.1.2.2.1.1,v.1.2.2.1.2.1,v.1.2.2.1.2.2,v.1.2.2.2.1.1,v.1.2.2.2.1.2,v.1.2.2.2.2.1,v.1.2.2.2.2.2.1,v.1.2.2.2.2.2.2.1,v.1.2.2.2.2.2.2.2.1,v.1.2.2.2.2.2.2.2.2.1,v.1.2.2.2.2.2.2.2.2.2.1,v.2.1.1,v.2.1.2.1,v.2.1.2.2.1,v.2.1.2.2.2.1,v.2.2.1,v.2.2.2.1,v.2.2.2.2.1⟩
 fr:=λx=>(((),((x.out_lo,x.out_len,x.out_cap),((x.left_lo,x.left_len,x.left_cap),((x.ready_lo,x.ready_len),(x.fan,(x.done,(x.k,(x.l,(x.n,(x.i,())))))))))),((x.nodes,(x.names,(x.mems,(x.outs,())))),(x.lev,(x.lft,(x.rdy,())))))
structure q2X where(out_lo out_len out_cap left_lo left_len left_cap ready_lo ready_len:Nat)(fan:List (List ((Int)×Int)))(done:Int)(nodes:List ((Int)×(List (Int))×(Int)×Int))(names:List (List UInt8))(mems:List ((List (Int))×(List (Int))×Int))(outs lev lft rdy:List (Int))
def q2:Pt q2X where
 own:=[]
 t:=⟨[(1,.c (.ptr 0 0)),(5,.c (.slc 1 0 1)),(6,.c (.slc 2 0 1)),(7,.c (.sl 3 0 1)),(10,.c (.arr (.sl (.pair (.int .i64) (.int .i64))))),(11,.c (.it .i64))],[.st [.arr (.pair (.int .u8) (.pair (.sl (.int .i64)) (.pair (.int .i64) (.int .i64)))),.arr .str,.arr (.pair (.sl (.int .i64)) (.pair (.sl (.int .i64)) (.int .i64))),.arr (.int .i64)] 1 0,.arr (.int .i64) 0,.arr (.int .i64) 0,.arr (.int .i64) 0]⟩
 to:=λv=>⟨v.1.2.1.1,v.1.2.1.2.1,v.1.2.1.2.2,v.1.2.2.1.1,v.1.2.2.1.2.1,v.1.2.2.1.2.2,v.1.2.2.2.1.1,v.1.2.2.2.1.2,v.1.2.2.2.2.1,v.1.2.2.2.2.2.1,v.2.1.1,v.2.1.2.1,v.2.1.2.2.1,v.2.1.2.2.2.1,v.2.2.1,v.2.2.2.1,v.2.2.2.2.1⟩
 fr:=λx=>(((),((x.out_lo,x.out_len,x.out_cap),((x.left_lo,x.left_len,x.left_cap),((x.ready_lo,x.ready_len),(x.fan,(x.done,())))))),((x.nodes,(x.names,(x.mems,(x.outs,())))),(x.lev,(x.lft,(x.rdy,())))))
def s2(x:p2X):Option (p2X⊕q2X):=bif decide (x.i<x.n) then bif inR x.i x.l.length then bif inR (x.l[x.i.toNat]?.getD (0,0)).1 x.nodes.length then bindO (M43.m ⟨(x.nodes[Int.toNat (x.l[x.i.toNat]?.getD (0,0)).1]?.getD (0,[],0,0)).1⟩) λy=>bif !y then some (Sum.inl ⟨x.out_lo,x.out_len,x.out_cap,x.left_lo,x.left_len,x.left_cap,x.ready_lo,x.ready_len,x.fan,x.done,x.k,x.l,x.n,IntKind.i64.wrap (x.i+1),x.nodes,x.names,x.mems,x.outs,x.lev,x.lft,x.rdy⟩) else bif inR (x.l[x.i.toNat]?.getD (0,0)).1 x.out_len then bif decide (x.out_lo+Int.toNat (x.l[x.i.toNat]?.getD (0,0)).1<x.lev.length) then bif inR x.k x.out_len then bif decide (x.out_lo+x.k.toNat<x.lev.length) then bif inR (x.l[x.i.toNat]?.getD (0,0)).1 x.out_len then bif decide (x.out_lo+Int.toNat (x.l[x.i.toNat]?.getD (0,0)).1<x.lev.length) then bif inR (x.l[x.i.toNat]?.getD (0,0)).1 x.left_len then bif decide (x.left_lo+Int.toNat (x.l[x.i.toNat]?.getD (0,0)).1<x.lft.length) then bif inR (x.l[x.i.toNat]?.getD (0,0)).1 x.left_len then bif decide (x.left_lo+Int.toNat (x.l[x.i.toNat]?.getD (0,0)).1<x.lft.length) then bif inR (x.l[x.i.toNat]?.getD (0,0)).1 x.left_len then bif decide (x.left_lo+Int.toNat (x.l[x.i.toNat]?.getD (0,0)).1<(x.lft.set (x.left_lo+Int.toNat (x.l[x.i.toNat]?.getD (0,0)).1) (IntKind.i64.wrap (x.lft[x.left_lo+Int.toNat (x.l[x.i.toNat]?.getD (0,0)).1]?.getD 0 - 1))).length) then bif (x.lft.set (x.left_lo+Int.toNat (x.l[x.i.toNat]?.getD (0,0)).1) (IntKind.i64.wrap (x.lft[x.left_lo+Int.toNat (x.l[x.i.toNat]?.getD (0,0)).1]?.getD 0 - 1)))[x.left_lo+Int.toNat (x.l[x.i.toNat]?.getD (0,0)).1]?.getD 0==0 then bif eqN x.ready_lo 0&&eqN x.rdy.length x.ready_len&&QT (x.ready_len+1) 8 then some (Sum.inl ⟨x.out_lo,x.out_len,x.out_cap,x.left_lo,x.left_len,x.left_cap,0,x.ready_len+1,x.fan,x.done,x.k,x.l,x.n,IntKind.i64.wrap (x.i+1),x.nodes,x.names,x.mems,x.outs,x.lev.set (x.out_lo+Int.toNat (x.l[x.i.toNat]?.getD (0,0)).1) (if IntKind.i64.wrap (x.lev[x.out_lo+x.k.toNat]?.getD 0+1)>x.lev[x.out_lo+Int.toNat (x.l[x.i.toNat]?.getD (0,0)).1]?.getD 0 then IntKind.i64.wrap (x.lev[x.out_lo+x.k.toNat]?.getD 0+1) else x.lev[x.out_lo+Int.toNat (x.l[x.i.toNat]?.getD (0,0)).1]?.getD 0),x.lft.set (x.left_lo+Int.toNat (x.l[x.i.toNat]?.getD (0,0)).1) (IntKind.i64.wrap (x.lft[x.left_lo+Int.toNat (x.l[x.i.toNat]?.getD (0,0)).1]?.getD 0 - 1)),x.rdy++[(x.l[x.i.toNat]?.getD (0,0)).1]⟩) else none else some (Sum.inl ⟨x.out_lo,x.out_len,x.out_cap,x.left_lo,x.left_len,x.left_cap,x.ready_lo,x.ready_len,x.fan,x.done,x.k,x.l,x.n,IntKind.i64.wrap (x.i+1),x.nodes,x.names,x.mems,x.outs,x.lev.set (x.out_lo+Int.toNat (x.l[x.i.toNat]?.getD (0,0)).1) (if IntKind.i64.wrap (x.lev[x.out_lo+x.k.toNat]?.getD 0+1)>x.lev[x.out_lo+Int.toNat (x.l[x.i.toNat]?.getD (0,0)).1]?.getD 0 then IntKind.i64.wrap (x.lev[x.out_lo+x.k.toNat]?.getD 0+1) else x.lev[x.out_lo+Int.toNat (x.l[x.i.toNat]?.getD (0,0)).1]?.getD 0),x.lft.set (x.left_lo+Int.toNat (x.l[x.i.toNat]?.getD (0,0)).1) (IntKind.i64.wrap (x.lft[x.left_lo+Int.toNat (x.l[x.i.toNat]?.getD (0,0)).1]?.getD 0 - 1)),x.rdy⟩) else none else none else none else none else none else none else none else none else none else none else none else none else none else none else some (Sum.inr ⟨x.out_lo,x.out_len,x.out_cap,x.left_lo,x.left_len,x.left_cap,x.ready_lo,x.ready_len,x.fan,x.done,x.nodes,x.names,x.mems,x.outs,x.lev,x.lft,x.rdy⟩)
theorem s2_eq(x:p2X):exec E3 131 (C71.Q0 2) 3 (p2.R x) (p2.H x) (QP 0 p2 (.exit 4) q2)=s2 x:=by kernel_rfl
def l2:QJ:=QQ 0 p2 (.exit 4) q2 s2
theorem tl2:QA (C71.Q0 2) 3=[]:=by kernel_rfl
theorem l2_ok  :QF Tryz.prog 131 none 0 (C71.Q0 2) l2:=QG mixed (Q4 ty_ok cl_ok _) (by trivial) (λ_=>rfl) (λ_=>rfl) (tl2▸Q7.nil) s2_eq
def E2:Env:=⟨ty,QE cl,Qi [(2,l2)],none⟩
structure p1X where(out_lo out_len out_cap left_lo left_len left_cap ready_lo ready_len:Nat)(fan:List (List ((Int)×Int)))(done:Int)(nodes:List ((Int)×(List (Int))×(Int)×Int))(names:List (List UInt8))(mems:List ((List (Int))×(List (Int))×Int))(outs lev lft rdy:List (Int))
def p1:Pt p1X where
 own:=[]
 t:=⟨[(1,.c (.ptr 0 0)),(5,.c (.slc 1 0 1)),(6,.c (.slc 2 0 1)),(7,.c (.sl 3 0 1)),(10,.c (.arr (.sl (.pair (.int .i64) (.int .i64))))),(11,.c (.it .i64))],[.st [.arr (.pair (.int .u8) (.pair (.sl (.int .i64)) (.pair (.int .i64) (.int .i64)))),.arr .str,.arr (.pair (.sl (.int .i64)) (.pair (.sl (.int .i64)) (.int .i64))),.arr (.int .i64)] 1 0,.arr (.int .i64) 0,.arr (.int .i64) 0,.arr (.int .i64) 0]⟩
 to:=λv=>⟨v.1.2.1.1,v.1.2.1.2.1,v.1.2.1.2.2,v.1.2.2.1.1,v.1.2.2.1.2.1,v.1.2.2.1.2.2,v.1.2.2.2.1.1,v.1.2.2.2.1.2,v.1.2.2.2.2.1,v.1.2.2.2.2.2.1,v.2.1.1,v.2.1.2.1,v.2.1.2.2.1,v.2.1.2.2.2.1,v.2.2.1,v.2.2.2.1,v.2.2.2.2.1⟩
 fr:=λx=>(((),((x.out_lo,x.out_len,x.out_cap),((x.left_lo,x.left_len,x.left_cap),((x.ready_lo,x.ready_len),(x.fan,(x.done,())))))),((x.nodes,(x.names,(x.mems,(x.outs,())))),(x.lev,(x.lft,(x.rdy,())))))
structure q1X where(out:List (Int))(done:Int)(nodes:List ((Int)×(List (Int))×(Int)×Int))(names:List (List UInt8))(mems:List ((List (Int))×(List (Int))×Int))(outs:List (Int))
def q1:Pt q1X where
 own:=[]
 t:=⟨[(1,.c (.ptr 0 0)),(5,.c (.arr (.int .i64))),(11,.c (.it .i64))],[.st [.arr (.pair (.int .u8) (.pair (.sl (.int .i64)) (.pair (.int .i64) (.int .i64)))),.arr .str,.arr (.pair (.sl (.int .i64)) (.pair (.sl (.int .i64)) (.int .i64))),.arr (.int .i64)] 1 0]⟩
 to:=λv=>⟨v.1.2.1,v.1.2.2.1,v.2.1.1,v.2.1.2.1,v.2.1.2.2.1,v.2.1.2.2.2.1⟩
 fr:=λx=>(((),(x.out,(x.done,()))),((x.nodes,(x.names,(x.mems,(x.outs,())))),()))
def s1(x:p1X):Option (p1X⊕q1X):=bif decide (x.done<(↑x.ready_len:Int)) then bif inR x.done x.ready_len then bif decide (x.ready_lo+x.done.toNat<x.rdy.length) then bif inR (x.rdy[x.ready_lo+x.done.toNat]?.getD 0) x.fan.length then bif (↑(List.length (x.fan[Int.toNat (x.rdy[x.ready_lo+x.done.toNat]?.getD 0)]?.getD [])):Int)==0 then some (Sum.inl ⟨x.out_lo,x.out_len,x.out_cap,x.left_lo,x.left_len,x.left_cap,x.ready_lo,x.ready_len,x.fan,IntKind.i64.wrap (x.done+1),x.nodes,x.names,x.mems,x.outs,x.lev,x.lft,x.rdy⟩) else bif inR (x.rdy[x.ready_lo+x.done.toNat]?.getD 0) x.fan.length then bindO (iter s2 ⟨x.out_lo,x.out_len,x.out_cap,x.left_lo,x.left_len,x.left_cap,x.ready_lo,x.ready_len,x.fan,IntKind.i64.wrap (x.done+1),x.rdy[x.ready_lo+x.done.toNat]?.getD 0,x.fan[Int.toNat (x.rdy[x.ready_lo+x.done.toNat]?.getD 0)]?.getD [],(↑(List.length (x.fan[Int.toNat (x.rdy[x.ready_lo+x.done.toNat]?.getD 0)]?.getD [])):Int),0,x.nodes,x.names,x.mems,x.outs,x.lev,x.lft,x.rdy⟩) λy=>some (Sum.inl ⟨y.out_lo,y.out_len,y.out_cap,y.left_lo,y.left_len,y.left_cap,y.ready_lo,y.ready_len,y.fan,y.done,y.nodes,y.names,y.mems,y.outs,y.lev,y.lft,y.rdy⟩) else none else none else none else none else bif leB (x.out_lo+x.out_len) x.lev.length&&true&&true then some (Sum.inr ⟨List.take x.out_len (List.drop x.out_lo x.lev),x.done,x.nodes,x.names,x.mems,x.outs⟩) else none
theorem s1_eq(x:p1X):exec E2 131 (C71.Q0 1) 2 (p1.R x) (p1.H x) (QP 0 p1 (.exit 2) q1)=s1 x:=by kernel_rfl
def l1:QJ:=QQ 0 p1 (.exit 2) q1 s1
theorem tl1:QA (C71.Q0 1) 2=[(2,C71.Q0 2)]:=by kernel_rfl
theorem l1_ok  :QF Tryz.prog 131 none 0 (C71.Q0 1) l1:=QG mixed (Q4 ty_ok cl_ok _) (by trivial) (λ_=>rfl) (λ_=>rfl) (tl1▸(Q7.cons rfl l2_ok Q7.nil)) s1_eq
def E1:Env:=⟨ty,QE cl,Qi [(1,l1),(2,l2)],none⟩
structure p0X where(out_lo out_len out_cap left_lo left_len left_cap ready_lo ready_len:Nat)(ns:List ((Int)×(List (Int))×(Int)×Int))(n i:Int)(nodes:List ((Int)×(List (Int))×(Int)×Int))(names:List (List UInt8))(mems:List ((List (Int))×(List (Int))×Int))(outs lev lft rdy:List (Int))
def p0:Pt p0X where
 own:=[.reg 7 (.int .i64)]
 t:=⟨[(1,.c (.ptr 0 0)),(5,.c (.slc 1 0 1)),(6,.c (.slc 2 0 1)),(7,.c (.sl 3 0 1)),(29,.c (.arr (.pair (.int .u8) (.pair (.sl (.int .i64)) (.pair (.int .i64) (.int .i64)))))),(30,.c (.it .i64)),(31,.c (.it .i64))],[.st [.arr (.pair (.int .u8) (.pair (.sl (.int .i64)) (.pair (.int .i64) (.int .i64)))),.arr .str,.arr (.pair (.sl (.int .i64)) (.pair (.sl (.int .i64)) (.int .i64))),.arr (.int .i64)] 1 0,.arr (.int .i64) 0,.arr (.int .i64) 0,.arr (.int .i64) 0]⟩
 to:=λv=>⟨v.1.2.1.1,v.1.2.1.2.1,v.1.2.1.2.2,v.1.2.2.1.1,v.1.2.2.1.2.1,v.1.2.2.1.2.2,v.1.2.2.2.1.1,v.1.2.2.2.1.2,v.1.2.2.2.2.1,v.1.2.2.2.2.2.1,v.1.2.2.2.2.2.2.1,v.2.1.1,v.2.1.2.1,v.2.1.2.2.1,v.2.1.2.2.2.1,v.2.2.1,v.2.2.2.1,v.2.2.2.2.1⟩
 fr:=λx=>(((),((x.out_lo,x.out_len,x.out_cap),((x.left_lo,x.left_len,x.left_cap),((x.ready_lo,x.ready_len),(x.ns,(x.n,(x.i,()))))))),((x.nodes,(x.names,(x.mems,(x.outs,())))),(x.lev,(x.lft,(x.rdy,())))))
structure q0X where(out_lo out_len out_cap left_lo left_len left_cap ready_lo ready_len:Nat)(nodes:List ((Int)×(List (Int))×(Int)×Int))(names:List (List UInt8))(mems:List ((List (Int))×(List (Int))×Int))(outs lev lft rdy:List (Int))
def q0:Pt q0X where
 own:=[]
 t:=⟨[(1,.c (.ptr 0 0)),(5,.c (.slc 1 0 1)),(6,.c (.slc 2 0 1)),(7,.c (.sl 3 0 1))],[.st [.arr (.pair (.int .u8) (.pair (.sl (.int .i64)) (.pair (.int .i64) (.int .i64)))),.arr .str,.arr (.pair (.sl (.int .i64)) (.pair (.sl (.int .i64)) (.int .i64))),.arr (.int .i64)] 1 0,.arr (.int .i64) 0,.arr (.int .i64) 0,.arr (.int .i64) 0]⟩
 to:=λv=>⟨v.1.2.1.1,v.1.2.1.2.1,v.1.2.1.2.2,v.1.2.2.1.1,v.1.2.2.1.2.1,v.1.2.2.1.2.2,v.1.2.2.2.1.1,v.1.2.2.2.1.2,v.2.1.1,v.2.1.2.1,v.2.1.2.2.1,v.2.1.2.2.2.1,v.2.2.1,v.2.2.2.1,v.2.2.2.2.1⟩
 fr:=λx=>(((),((x.out_lo,x.out_len,x.out_cap),((x.left_lo,x.left_len,x.left_cap),((x.ready_lo,x.ready_len),())))),((x.nodes,(x.names,(x.mems,(x.outs,())))),(x.lev,(x.lft,(x.rdy,())))))
def s0(x:p0X):Option (p0X⊕q0X):=bif decide (x.i<x.n) then bif inR x.i x.ns.length then bindO (M43.m ⟨(x.ns[x.i.toNat]?.getD (0,[],0,0)).1⟩) λy=>bif y then bif inR x.i x.left_len then bif decide (x.left_lo+x.i.toNat<x.lft.length) then bif inR x.i x.left_len then bif decide (x.left_lo+x.i.toNat<(x.lft.set (x.left_lo+x.i.toNat) (↑(List.length (x.ns[x.i.toNat]?.getD (0,[],0,0)).2.1):Int)).length) then bif (x.lft.set (x.left_lo+x.i.toNat) (↑(List.length (x.ns[x.i.toNat]?.getD (0,[],0,0)).2.1):Int))[x.left_lo+x.i.toNat]?.getD 0==0 then bif eqN x.ready_lo 0&&eqN x.rdy.length x.ready_len&&QT (x.ready_len+1) 8 then some (Sum.inl ⟨x.out_lo,x.out_len,x.out_cap,x.left_lo,x.left_len,x.left_cap,0,x.ready_len+1,x.ns,x.n,IntKind.i64.wrap (x.i+1),x.nodes,x.names,x.mems,x.outs,x.lev,x.lft.set (x.left_lo+x.i.toNat) (↑(List.length (x.ns[x.i.toNat]?.getD (0,[],0,0)).2.1):Int),x.rdy++[x.i]⟩) else none else some (Sum.inl ⟨x.out_lo,x.out_len,x.out_cap,x.left_lo,x.left_len,x.left_cap,x.ready_lo,x.ready_len,x.ns,x.n,IntKind.i64.wrap (x.i+1),x.nodes,x.names,x.mems,x.outs,x.lev,x.lft.set (x.left_lo+x.i.toNat) (↑(List.length (x.ns[x.i.toNat]?.getD (0,[],0,0)).2.1):Int),x.rdy⟩) else none else none else none else none else bif inR x.i x.left_len then bif decide (x.left_lo+x.i.toNat<x.lft.length) then bif x.lft[x.left_lo+x.i.toNat]?.getD 0==0 then bif eqN x.ready_lo 0&&eqN x.rdy.length x.ready_len&&QT (x.ready_len+1) 8 then some (Sum.inl ⟨x.out_lo,x.out_len,x.out_cap,x.left_lo,x.left_len,x.left_cap,0,x.ready_len+1,x.ns,x.n,IntKind.i64.wrap (x.i+1),x.nodes,x.names,x.mems,x.outs,x.lev,x.lft,x.rdy++[x.i]⟩) else none else some (Sum.inl ⟨x.out_lo,x.out_len,x.out_cap,x.left_lo,x.left_len,x.left_cap,x.ready_lo,x.ready_len,x.ns,x.n,IntKind.i64.wrap (x.i+1),x.nodes,x.names,x.mems,x.outs,x.lev,x.lft,x.rdy⟩) else none else none else none else some (Sum.inr ⟨x.out_lo,x.out_len,x.out_cap,x.left_lo,x.left_len,x.left_cap,x.ready_lo,x.ready_len,x.nodes,x.names,x.mems,x.outs,x.lev,x.lft,x.rdy⟩)
theorem s0_eq(x:p0X):exec E1 131 (C71.Q0 0) 1 (p0.R x) (p0.H x) (QP 0 p0 (.exit 0) q0)=s0 x:=by kernel_rfl
def l0:QJ:=QQ 0 p0 (.exit 0) q0 s0
theorem tl0:QA (C71.Q0 0) 1=[]:=by kernel_rfl
theorem l0_ok  :QF Tryz.prog 131 none 0 (C71.Q0 0) l0:=QG mixed (Q4 ty_ok cl_ok _) (by trivial) (λ_=>rfl) (λ_=>rfl) (tl0▸Q7.nil) s0_eq
def E0:Env:=⟨ty,QE cl,Qi [(0,l0),(1,l1),(2,l2)],none⟩
def m(x:gX):Option fY:=bindO (M113.m ⟨x.nodes,x.names,x.mems,x.outs⟩) λy=>bif y !=0 then some ([],y) else bif decide (0<=(↑x.nodes.length:Int))&&decide ((↑x.nodes.length:Int)<=(↑x.nodes.length:Int))&&decide ((↑x.nodes.length:Int)*(↑8:Int)<=281474976710656)&&decide ((↑x.nodes.length:Int)<=9223372036854775807) then bif decide (0<=(↑x.nodes.length:Int))&&decide ((↑x.nodes.length:Int)<=(↑x.nodes.length:Int))&&decide ((↑x.nodes.length:Int)*(↑8:Int)<=281474976710656)&&decide ((↑x.nodes.length:Int)<=9223372036854775807) then bindO (iter s0 ⟨0,(↑x.nodes.length:Int).toNat,(↑x.nodes.length:Int).toNat,0,(↑x.nodes.length:Int).toNat,(↑x.nodes.length:Int).toNat,0,0,x.nodes,(↑x.nodes.length:Int),0,x.nodes,x.names,x.mems,x.outs,List.replicate (↑x.nodes.length:Int).toNat (0:Int),List.replicate (↑x.nodes.length:Int).toNat (0:Int),[]⟩) λy=>bindO (M106.m ⟨y.nodes,y.names,y.mems,y.outs⟩) λy_1=>bindO (iter s1 ⟨y.out_lo,y.out_len,y.out_cap,y.left_lo,y.left_len,y.left_cap,y.ready_lo,y.ready_len,y_1,0,y.nodes,y.names,y.mems,y.outs,y.lev,y.lft,y.rdy⟩) λy=>bif decide (y.done<(↑y.nodes.length:Int)) then some ([],6) else some (y.out,0) else none else none
theorem m_eq(x:gX):exec E0 131 C71 0 (QD 0 (g.A x)) (g.H x) (finish 0 ty [.tmp 2,.tmp 3] f)=m x:=by kernel_rfl
theorem tl:QA C71 0=[(0,C71.Q0 0),(1,C71.Q0 1)]:=by kernel_rfl
theorem known:QB Tryz.prog 71 g f m:=
 Q5 mixed (Q4 ty_ok cl_ok _) s71 rfl rfl tl (Q7.cons rfl l0_ok (Q7.cons rfl l1_ok Q7.nil)) (λ_ _=>⟨rfl,rfl⟩) (λ_ _=>⟨rfl,rfl⟩) m_eq
def con:Con:=Qa g f m default
theorem con_ok:QC Tryz.prog 71 con:=Q9 known (λ_=>rfl) rfl
end M71
namespace M98
structure gX where(nodes:List ((Int)×(List (Int))×(Int)×Int))(names:List (List UInt8))(mems:List ((List (Int))×(List (Int))×Int))(outs:List (Int))
def g:Sg gX:=⟨[.agg [.arr (.pair (.int .u8) (.pair (.sl (.int .i64)) (.pair (.int .i64) (.int .i64)))),.arr .str,.arr (.pair (.sl (.int .i64)) (.pair (.sl (.int .i64)) (.int .i64))),.arr (.int .i64)]],[],λa b=>⟨a.1.1,a.1.2.1,a.1.2.2.1,a.1.2.2.2.1⟩,λx=>((x.nodes,(x.names,(x.mems,(x.outs,())))),()),λx=>()⟩
abbrev fY:=Int
def f:Ft fY:=⟨none,.c (.it .i64),[],λa b=>(a),λy=>y,λy=>()⟩
def cl:List (FuncId×Con):=[(71,M71.con)]
theorem cl_ok:Q8 Tryz.prog cl:=⟨M71.con_ok,trivial⟩
def E0:Env:=⟨ty,QE cl,λ_=>none,none⟩
def m(x:gX):Option fY:=bindO (M71.m ⟨x.nodes,x.names,x.mems,x.outs⟩) λy=>some y.2
theorem m_eq(x:gX):exec E0 11 C98 0 (QD 0 (g.A x)) (g.H x) (finish 0 ty [.tmp 2] f)=m x:=by kernel_rfl
theorem tl:QA C98 0=[]:=by kernel_rfl
theorem known:QB Tryz.prog 98 g f m:=
 Q5 mixed (Q4 ty_ok cl_ok _) s98 rfl rfl tl Q7.nil (λ_ _=>⟨rfl,rfl⟩) (λ_ _=>⟨rfl,rfl⟩) m_eq
def con:Con:=Qa g f m default
theorem con_ok:QC Tryz.prog 98 con:=Q9 known (λ_=>rfl) rfl
end M98
end
section
open Go.Abs
namespace Co
structure Ck(N:NodeL)(A:List (List UInt8))(C:List Int):Prop where
 some':1<=N.length
 few:N.length<=19
 nd:∀x∈N,Nd N x
 nm:A=(List.range N.length).map M52.nm
 outs:∀a∈C,In N.length a
 fewC:C.length<=10000
theorem Ck.len{N:NodeL}{A:List (List UInt8)}{C:List Int}(h:Ck N A C):A.length=N.length:=by rw[h.nm];simp
theorem m143{N:NodeL}{A:List (List UInt8)}{C:List Int}(h:Ck N A C):M143.m ⟨N,A,[],C⟩=some 0:=by unfold M143.m;have e:=h.len;exact AF (.inl ⟨by rw[e];exact h.nm,by have:=h.some';show 1<=A.length;omega,by have:=h.few;show A.length<=20;omega⟩)
theorem m113{N:NodeL}{A:List (List UInt8)}{C:List Int}(h:Ck N A C):M113.m ⟨N,A,[],C⟩=some 0:=by
 have key:=iter_count (step:=M113.s0) (λi=>⟨N,(N.length:Int),(i:Int),N,A,[],C⟩) (y:=.inl ⟨N,A,[],C⟩) N.length (λi hi=>by
  have e1:decide ((i:Int)<(N.length:Int))=true:=AB (by omega);unfold M113.s0;simp only[e1,inR_nat hi,A5,getD_at hi,m142 (h.nd _ (AH hi)),bindO,suc (i:=i) (by have:=h.few;omega)];rfl) (by
  have e1:decide ((N.length:Int)<(N.length:Int))=false:=AN (by omega);unfold M113.s0;simp only[e1,A7])
 have key':iter M113.s0 { ns:=N,n:=(N.length:Int),i:=0,nodes:=N,names:=A,mems:=[],outs:=C }=_:=key;have k1:iter M113.s1 { ms:=[],n:=((([]:List (List Int×List Int×Int)).length:Nat):Int),i:=0,nodes:=N,names:=A,mems:=[],outs:=C }=some (.inl ⟨N,A,[],C⟩):=by rw[iter_eq];rfl
 have f1:decide ((N.length:Int)>16384)=false:=AN (by have:=h.few;omega);have f2:decide ((C.length:Int)>16384)=false:=AN (by have:=h.fewC;omega);have f3:decide (((([]:List (List Int×List Int×Int)).length:Nat):Int)>16)=false:=rfl;have f4:((A.length:Int) !=(N.length:Int))=false:=by rw[h.len];simp
 have f5:M139.m ⟨N,A,[],C⟩=some (N,A,[],C):=rfl;unfold M113.m;simp only[f1,f2,f3,f4,A7,key',bindO,sumC,m143 h,k1,f5,m145a (by have:=h.fewC;omega) h.outs];rfl
end Co
end
section
open Go.Abs
namespace Co
def pn(N:NodeL)(i:Nat):List Int:=(N[i]?.getD (0,[],0,0)).2.1
def isC(k:Int):Bool:=bif decide (k>=1) then decide (k<=13) else false
def cm(N:NodeL)(i:Nat):Bool:=isC (N[i]?.getD (0,[],0,0)).1
theorem m43(k:Int):M43.m ⟨k⟩=some (isC k):=rfl
theorem pinsOf_ok(a i:Nat):∀(l:List Int) (k:Nat),(∀e∈pinsOf a i l k,e.1=(i:Int))/\(pinsOf a i l k).length=l.count (a:Int)
 |[],k=>⟨λe h=>(by cases h),rfl⟩
 |b::l,k=>by
  obtain⟨h1,h2⟩:=pinsOf_ok a i l (k+1);unfold pinsOf;by_cases hb:b=(a:Int)
  ·rw[AF hb,hb,List.count_cons_self];refine⟨λe he=> ?_,by rw[As,h2]⟩;rcases AW.1 he with rfl|he
   ·rfl
   ·exact h1 e he
  ·rw[AP hb,List.count_cons_of_ne hb];exact⟨h1,h2⟩
theorem cpAll{l:List (Int×Int)}{i:Int}(h:∀e∈l,e.1=i)(j:Int):l.countP (λe=>e.1==j)=if i=j then l.length else 0:=by
 by_cases hj:i=j
 ·rw[AF hj];exact List.countP_eq_length.2 λe he=>by rw[h e he,hj];exact Ca j
 ·rw[AP hj];exact List.countP_eq_zero.2 λe he=>by rw[h e he];simpa using hj
theorem readers_ok(a:Nat):∀(r:NodeL) (i:Nat),(∀e∈readers a r i,(i:Int)<=e.1/\e.1<((i+r.length:Nat):Int))/\∀j,j<r.length->(readers a r i).countP (λe=>e.1==((i+j:Nat):Int))=(pn r j).count (a:Int)
 |[],i=>⟨λe h=>(by cases h),λj h=>(by cases h)⟩
 |x::r,i=>by
  obtain⟨h1,h2⟩:=readers_ok a r (i+1);obtain⟨p1,p2⟩:=pinsOf_ok a i x.2.1 0;unfold readers;refine⟨λe he=> ?_,λj hj=> ?_⟩
  ·rcases Ad.1 he with he|he
   ·have:=p1 e he;simp only[As];omega
   ·have:=h1 e he;simp only[As];omega
  ·rw[Ce,cpAll p1]
   cases j with
   |zero=>rw[AF (by omega),p2];have:(readers a r (i+1)).countP (λe=>e.1==((i+0:Nat):Int))=0:=List.countP_eq_zero.2 λe he=>(by have:=(h1 e he).1;simp;omega);rw[this];rfl
   |succ j=>rw[AP (by omega),AI,show i+(j+1)=i+1+j by omega,h2 j (by simpa using hj)];rfl
theorem cp_add{a:Int}{D:List Int}(h:a∉D):∀l:List Int,l.countP (λx=>decide (x∈D++[a]))=l.countP (λx=>decide (x∈D))+l.count a
 |[]=>rfl
 |b::l=>by
  rw[List.countP_cons,List.countP_cons,cp_add h l,List.count_cons];by_cases hb:b=a
  ·subst hb;simp[h];omega
  ·simp only[Ad,Ai,hb,Bl,Av,Af];omega
structure KI(N:NodeL)(D:List Int)(ex:Nat->Nat)(lft rdy:List Int):Prop where
 lf:lft.length=N.length
 rn:rdy.Nodup
 rr:∀a∈rdy,In N.length a
 cnt:∀i,i<N.length->lft[i]?.getD 0=if cm N i=true then ((pn N i).length:Int) - (pn N i).countP (λx=>decide (x∈D)) - ex i else 0
 rd:∀i,i<N.length->((i:Int)∈rdy↔lft[i]?.getD 0=0)
def Up(N:NodeL)(D lev:List Int):Prop:=∀i,i<N.length->cm N i=true->∀a∈pn N i,a∈D->lev[a.toNat]?.getD 0+1<=lev[i]?.getD 0
structure KJ(N:NodeL)(D:List Int)(a:Int)(l:List (Int×Int))(j:Nat)(lev lft rdy:List Int):Prop where
 ki:KI N D (λi=>(l.take j).countP (λe=>e.1==(i:Int))) lft rdy
 ll:lev.length=N.length
 up:Up N D lev
 ua:∀e∈l.take j,cm N e.1.toNat=true->lev[a.toNat]?.getD 0+1<=lev[e.1.toNat]?.getD 0
 b0:∀i,i<N.length->0<=lev[i]?.getD 0/\lev[i]?.getD 0<=D.length+1
 ba:lev[a.toNat]?.getD 0<=D.length
 pre:∃t,rdy=D++a::t
structure Edges(N:NodeL)(a:Int)(l:List (Int×Int)):Prop where
 r:∀e∈l,In N.length e.1
 c:∀i,i<N.length->l.countP (λe=>e.1==(i:Int))=(pn N i).count a
theorem edges{N:NodeL}{a:Nat}:Edges N a (readers a N 0):=by obtain⟨h1,h2⟩:=readers_ok a N 0;exact⟨λe he=>by have:=h1 e he;exact⟨by omega,by omega⟩,λi hi=>by have:=h2 i hi;rwa [AI]at this⟩
theorem getSet{l:List Int}{i j:Nat}{v:Int}(h:i<l.length):(l.set i v)[j]?.getD 0=if j=i then v else l[j]?.getD 0:=by
 rw[List.getElem?_set];by_cases e:i=j
 ·rw[AF e,AF h,AF e.symm];rfl
 ·rw[AP e,AP (λh=>e h.symm)]
theorem take_succ'{α:Type}{l:List α}{j:Nat}(h:j<l.length):l.take (j+1)=l.take j++[l[j]]:=(List.take_append_getElem h).symm
theorem cpLt{l:List (Int×Int)}{j:Nat}(h:j<l.length):(l.take j).countP (λe=>e.1==l[j].1)+1<=l.countP (λe=>e.1==l[j].1):=by
 have h1:l=l.take (j+1)++l.drop (j+1):=(Bh _ _).symm;have h2:l.countP (λe=>e.1==l[j].1)=(l.take (j+1)).countP (λe=>e.1==l[j].1)+(l.drop (j+1)).countP (λe=>e.1==l[j].1):=by rw[<-Ce,<-h1]
 rw[h2,take_succ' h,Ce];simp
theorem KJ.left{N:NodeL}{D:List Int}{a:Int}{l:List (Int×Int)}{j:Nat}{lev lft rdy:List Int}(h:KJ N D a l j lev lft rdy)(he:Edges N a l)(hj:j<l.length)(hc:cm N l[j].1.toNat=true):1<=lft[l[j].1.toNat]?.getD 0:=by
 obtain⟨r0,r1⟩:=he.r l[j] (AH hj);have hn:l[j].1.toNat<N.length:=by omega
 have e1:((l[j].1.toNat:Nat):Int)=l[j].1:=By r0;rw[h.ki.cnt _ hn,AF hc];have h1:=he.c _ hn;obtain⟨t,ht⟩:=h.pre;have hd:a∉D:=by have:=h.ki.rn;rw[ht,List.nodup_append]at this;exact λha=>this.2.2 a ha a (Bk ..) rfl
 have h2:=cp_add hd (pn N l[j].1.toNat);have h3:(pn N l[j].1.toNat).countP (λx=>decide (x∈D++[a]))<=(pn N l[j].1.toNat).length:=List.countP_le_length ..;have h4:=cpLt hj;simp only[e1]at h1⊢;omega
theorem KJ.low{N:NodeL}{D:List Int}{a:Int}{l:List (Int×Int)}{j:Nat}{lev lft rdy:List Int}(h:KJ N D a l j lev lft rdy){i:Nat}(hi:i<N.length):0<=lft[i]?.getD 0\/cm N i=true:=by
 cases hc:cm N i with
 |true=>exact .inr rfl
 |false=>left;rw[h.ki.cnt i hi,hc];simp
theorem KJ.high{N:NodeL}{D:List Int}{a:Int}{l:List (Int×Int)}{j:Nat}{lev lft rdy:List Int}(h:KJ N D a l j lev lft rdy){i:Nat}(hi:i<N.length):lft[i]?.getD 0<=(pn N i).length:=by rw[h.ki.cnt i hi];split<;>omega
theorem KJ.skip{N:NodeL}{D:List Int}{a:Int}{l:List (Int×Int)}{j:Nat}{lev lft rdy:List Int}(h:KJ N D a l j lev lft rdy)(he:Edges N a l)(hj:j<l.length)(hc:cm N l[j].1.toNat=false):KJ N D a l (j+1) lev lft rdy:=by
 obtain⟨r0,r1⟩:=he.r l[j] (AH hj);refine { h with ki:={ h.ki with cnt:=λi hi=> ?_ },ua:=λe hm hce=> ?_ }
 ·rw[h.ki.cnt i hi];by_cases hci:cm N i=true
  ·rw[AF hci,AF hci,take_succ' hj,Ce];have:([l[j]]:List (Int×Int)).countP (λe=>e.1==(i:Int))=0:=List.countP_eq_zero.2 λe hm=>(by obtain rfl:=Ai.1 hm;intro e2;have e2:l[j].1=(i:Int):=Av.1 e2;rw[e2,AC,hci]at hc;cases hc);rw[this];omega
  ·rw[AP hci,AP hci]
 ·rw[take_succ' hj]at hm;rcases Ad.1 hm with hm|hm
  ·exact h.ua e hm hce
  ·obtain rfl:=Ai.1 hm;rw[hc]at hce;cases hce
theorem KJ.edge{N:NodeL}{D:List Int}{a:Int}{l:List (Int×Int)}{j:Nat}{lev lft rdy:List Int}(h:KJ N D a l j lev lft rdy)(he:Edges N a l)(hj:j<l.length)(hc:cm N l[j].1.toNat=true)
  {lev' lft' rdy':List Int} (h1:lft'=lft.set l[j].1.toNat (lft[l[j].1.toNat]?.getD 0 - 1))
  (h2:lev'=lev.set l[j].1.toNat (if lev[a.toNat]?.getD 0+1>lev[l[j].1.toNat]?.getD 0 then lev[a.toNat]?.getD 0+1 else lev[l[j].1.toNat]?.getD 0))
  (h3:rdy'=if lft[l[j].1.toNat]?.getD 0 - 1=0 then rdy++[l[j].1] else rdy):KJ N D a l (j+1) lev' lft' rdy':=by
 have hl:=h.left he hj hc;obtain⟨r0,r1⟩:=he.r l[j] (AH hj);have hn:l[j].1.toNat<N.length:=by omega
 have e1:((l[j].1.toNat:Nat):Int)=l[j].1:=By r0;have hnot:l[j].1∉rdy:=λhm=>by have:=(h.ki.rd _ hn).1 (by rw[e1];exact hm);omega
 obtain⟨t,ht⟩:=h.pre;have hlf:=h.ki.lf;have hll:=h.ll;have hother:∀x:Int,x∈rdy->0<=x->x.toNat≠l[j].1.toNat:=λx hx h0 e=>hnot (by
  have:x=l[j].1:=(by omega);rw[<-this];exact hx)
 have hD:∀x∈D,x∈rdy/\0<=x:=λx hx=>by have:x∈rdy:=(by rw[ht];exact B6 _ hx);exact⟨this,(h.ki.rr x this).1⟩
 have ha:a∈rdy/\0<=a:=by have:a∈rdy:=(by rw[ht];exact B9 _ (Bk ..));exact⟨this,(h.ki.rr a this).1⟩
 have gl:∀i,lft'[i]?.getD 0=if i=l[j].1.toNat then lft[l[j].1.toNat]?.getD 0 - 1 else lft[i]?.getD 0:=λi=>by rw[h1];exact getSet (by omega)
 have gv:∀i,lev'[i]?.getD 0=if i=l[j].1.toNat then (if lev[a.toNat]?.getD 0+1>lev[l[j].1.toNat]?.getD 0 then lev[a.toNat]?.getD 0+1 else lev[l[j].1.toNat]?.getD 0) else lev[i]?.getD 0:=λi=>by rw[h2];exact getSet (by omega)
 have gD:∀x:Int,x∈rdy->0<=x->lev'[x.toNat]?.getD 0=lev[x.toNat]?.getD 0:=λx hx h0=>by rw[gv,AP (hother x hx h0)]
 have gge:∀i:Nat,lev[i]?.getD 0<=lev'[i]?.getD 0:=λi=>by
  rw[gv];split
  ·rename_i e;subst e;split<;>omega
  ·omega
 refine⟨⟨by rw[h1];simpa using hlf,?_,?_,λi hi=> ?_,λi hi=> ?_⟩,by rw[h2];simpa using hll,λi hi hci x hx hxD=> ?_,λe hm hce=> ?_,λi hi=> ?_,?_,?_⟩
 ·rw[h3];split
  ·rw[List.nodup_append];exact⟨h.ki.rn,by simp,λx hx y hy e=>hnot (by rw[Ai.1 hy]at e;rw[<-e];exact hx)⟩
  ·exact h.ki.rn
 ·rw[h3];split
  ·intro x hx;rcases Ad.1 hx with hx|hx
   ·exact h.ki.rr x hx
   ·rw[Ai.1 hx];exact⟨r0,r1⟩
  ·exact h.ki.rr
 ·rw[gl,take_succ' hj,Ce];by_cases e:i=l[j].1.toNat
  ·subst e;rw[AF rfl,AF hc,h.ki.cnt _ hn,AF hc];have:([l[j]]:List (Int×Int)).countP (λe=>e.1==((l[j].1.toNat:Nat):Int))=1:=(by rw[e1];simp);rw[this];omega
  ·rw[AP e,h.ki.cnt i hi];have:([l[j]]:List (Int×Int)).countP (λe=>e.1==(i:Int))=0:=List.countP_eq_zero.2 λx hm e2=>(by obtain rfl:=Ai.1 hm;exact e (by rw[Av.1 e2];simp));rw[this];split<;>omega
 ·rw[gl,h3];by_cases e:i=l[j].1.toNat
  ·subst e;rw[AF rfl,e1];by_cases e4:lft[l[j].1.toNat]?.getD 0 - 1=0
   ·rw[AF e4];exact⟨λ_=>e4,λ_=>B9 _ (Ai.2 rfl)⟩
   ·rw[AP e4];exact⟨λhm=>absurd hm hnot,λh=>absurd h e4⟩
  ·rw[AP e,<-h.ki.rd i hi];split
   ·refine⟨λhm=> ?_,λhm=>B6 _ hm⟩;rcases Ad.1 hm with hm|hm
    ·exact hm
    ·exact absurd (by rw[<-Ai.1 hm];simp) e
   ·exact Iff.rfl
 ·rw[gD x (hD x hxD).1 (hD x hxD).2];exact Int.le_trans (h.up i hi hci x hx hxD) (gge i)
 ·rw[gD a ha.1 ha.2];rw[take_succ' hj]at hm;rcases Ad.1 hm with hm|hm
  ·exact Int.le_trans (h.ua e hm hce) (gge _)
  ·obtain rfl:=Ai.1 hm;rw[gv,AF rfl];split<;>omega
 ·have:=h.b0 i hi;have h5:=h.ba;have h6:=h.b0 _ hn;rw[gv];split
  ·rename_i e;have h7:=h.b0 a.toNat (by have:=h.ki.rr a ha.1;omega);split
   ·exact⟨by omega,by omega⟩
   ·exact h6
  ·exact this
 ·rw[gD a ha.1 ha.2];exact h.ba
 ·rw[h3];split
  ·exact⟨t++[l[j].1],by rw[ht];simp⟩
  ·exact⟨t,ht⟩
end Co
end
section
open Go.Abs
namespace Co
def nums(n:Nat):List Int:=(List.range n).map λi:Nat=>(i:Int)
theorem nums_mem{n:Nat}{a:Int}:a∈nums n↔In n a:=by unfold nums In;rw[Ba];refine⟨λ⟨i,h1,h2⟩=> ?_,λh=>⟨a.toNat,Bv.2 (by omega),by omega⟩⟩;have:=Bv.1 h1;omega
theorem nums_nodup{n:Nat}:(nums n).Nodup:=List.pairwise_map.2 (List.nodup_range.imp λh e=>h (by omega))
theorem nums_len{n:Nat}:(nums n).length=n:=by simp[nums]
theorem nodup_len{l:List Int}{n:Nat}(h:l.Nodup)(hr:∀a∈l,In n a):l.length<=n:=by
 have h1:l.Perm ((nums n).filter λa=>decide (a∈l)):=(List.perm_ext_iff_of_nodup h (List.Pairwise.filter _ nums_nodup)).2 λa=>by rw[CT,nums_mem];exact⟨λha=>⟨hr a ha,by simpa using ha⟩,λha=>by simpa using ha.2⟩
 rw[h1.length_eq];have:=C7 (λa=>decide (a∈l)) (nums n);rwa [nums_len]at this
theorem nodup_full{l:List Int}{n:Nat}(h:l.Nodup)(hr:∀a∈l,In n a)(hf:∀i,i<n->(i:Int)∈l):l.Perm (nums n):=
 (List.perm_ext_iff_of_nodup h nums_nodup).2 λa=>by rw[nums_mem];refine⟨hr a,λha=> ?_⟩;have:=hf a.toNat (by obtain⟨q1,q2⟩:=ha;omega);rwa [By ha.1]at this
theorem leB_of{a b:Nat}(h:a<=b):leB a b=true:=AB h
theorem eqN_of{a b:Nat}(h:a=b):eqN a b=true:=AB h
theorem room{n b:Nat}(hn:n<=1000000)(hb:b<=1000):QT n b=true:=by unfold QT;have:n*b<=1000000*1000:=Nat.mul_le_mul hn hb;rw[leB_of (by omega),leB_of (by omega),leB_of (by omega)];rfl
theorem inR_int{a:Int}{n:Nat}(h:In n a):inR a n=true:=by simp[inR];exact h
theorem dlt{a b:Nat}(h:a<b):decide (a<b)=true:=AB h
theorem ilt{a b:Int}(h:a<b):decide (a<b)=true:=AB h
theorem inlt{a b:Int}(h:¬a<b):decide (a<b)=false:=AN h
section
variable {N:NodeL}{A:List (List UInt8)}{C:List Int}{fan:List (List (Int×Int))}{done:Int}
abbrev S2(N:NodeL)(A:List (List UInt8))(C:List Int)(fan:List (List (Int×Int)))(done a:Int)(l:List (Int×Int))(j:Nat)(lev lft rdy:List Int):M71.p2X:=⟨0,N.length,N.length,0,N.length,N.length,0,rdy.length,fan,done,a,l,(l.length:Int),(j:Int),N,A,[],C,lev,lft,rdy⟩
abbrev Q2(N:NodeL)(A:List (List UInt8))(C:List Int)(fan:List (List (Int×Int)))(done:Int)(lev lft rdy:List Int):M71.q2X:=⟨0,N.length,N.length,0,N.length,N.length,0,rdy.length,fan,done,N,A,[],C,lev,lft,rdy⟩
theorem m71_2{D:List Int}{a:Int}{l:List (Int×Int)}(he:Edges N a l)(hN:N.length<=20)(few:∀i,(pn N i).length<=1000000)(hl:l.length<=1000000)(hD:D.length<=20)(ha:In N.length a){lev lft rdy:List Int}(h:KJ N D a l 0 lev lft rdy):
  ∃lev' lft' rdy',iter M71.s2 (S2 N A C fan done a l 0 lev lft rdy)=some (Q2 N A C fan done lev' lft' rdy')/\KJ N D a l l.length lev' lft' rdy':=by
 obtain⟨y,h1,lev',lft',rdy',h2,h3⟩:=iter_inv (step:=M71.s2) (λx=>∃j lev lft rdy,x=S2 N A C fan done a l j lev lft rdy/\j<=l.length/\KJ N D a l j lev lft rdy) (λx=>l.length - x.i.toNat)
  (λy=>∃lev lft rdy,y=Q2 N A C fan done lev lft rdy/\KJ N D a l l.length lev lft rdy) (by
   rintro x ⟨j,lev,lft,rdy,rfl,hj,hk⟩;unfold M71.s2;by_cases hlt:j<l.length
   ·have e1:=ilt (a:=(j:Int)) (b:=(l.length:Int)) (by omega);have hr:=he.r l[j] (AH hlt);have hn:l[j].1.toNat<N.length:=(by obtain⟨q1,q2⟩:=hr;omega);have hat:a.toNat<N.length:=(by obtain⟨q1,q2⟩:=ha;omega);have e2:=inR_int hr;have e3:=inR_nat hlt;simp only[e1,e3,A5,getD_at hlt,e2,m43,bindO];have e4:isC (N[l[j].1.toNat]?.getD (0,[],0,0)).1=cm N l[j].1.toNat:=rfl;simp only[e4]
    cases hc:cm N l[j].1.toNat with
    |false=>simp only[BX,A5,suc (i:=j) (by omega)];exact⟨_,rfl,⟨j+1,lev,lft,rdy,rfl,hlt,hk.skip he hlt hc⟩,by simp;omega⟩
    |true=>
     have hL:=hk.left he hlt hc;have hH:=hk.high hn;have hF:=few l[j].1.toNat;have hB:=hk.b0 _ hat;have hBa:=hk.ba;have hrl:rdy.length<=N.length:=nodup_len hk.ki.rn hk.ki.rr;have g1:=dlt (a:=l[j].1.toNat) (b:=lev.length) (by have:=hk.ll;omega);have g2:=dlt (a:=a.toNat) (b:=lev.length) (by have:=hk.ll;omega);have g3:=dlt (a:=l[j].1.toNat) (b:=lft.length) (by have:=hk.ki.lf;omega);have g4:=dlt (a:=l[j].1.toNat) (b:=(lft.set l[j].1.toNat (lft[l[j].1.toNat]?.getD 0 - 1)).length) (by have:=hk.ki.lf;simp;omega);have w1:IntKind.i64.wrap (lft[l[j].1.toNat]?.getD 0 - 1)=lft[l[j].1.toNat]?.getD 0 - 1:=w64 (by omega) (by omega);have w2:IntKind.i64.wrap (lev[a.toNat]?.getD 0+1)=lev[a.toNat]?.getD 0+1:=w64 (by omega) (by omega);have g5:(lft.set l[j].1.toNat (lft[l[j].1.toNat]?.getD 0 - 1))[l[j].1.toNat]?.getD 0=lft[l[j].1.toNat]?.getD 0 - 1:=(by rw[getSet (by have:=hk.ki.lf;omega),AF rfl]);simp only[Bool.not_true,A7,AI,g1,g2,g3,w1,w2,inR_int ha,A5,g4,g5,suc (i:=j) (by omega)];by_cases h0:lft[l[j].1.toNat]?.getD 0 - 1=0
     ·have g6:(lft[l[j].1.toNat]?.getD 0 - 1==0)=true:=Av.2 h0;simp only[g6,A5,eqN_of rfl,room (n:=rdy.length+1) (b:=8) (by omega) (by omega),AG];exact⟨_,rfl,⟨j+1,_,_,rdy++[l[j].1],by simp,hlt,hk.edge he hlt hc rfl rfl (by rw[AF h0])⟩,by simp;omega⟩
     ·have g6:(lft[l[j].1.toNat]?.getD 0 - 1==0)=false:=Ae.2 h0;simp only[g6,A7];exact⟨_,rfl,⟨j+1,_,_,rdy,rfl,hlt,hk.edge he hlt hc rfl rfl (by rw[AP h0])⟩,by simp;omega⟩
   ·have e1:=inlt (a:=(j:Int)) (b:=(l.length:Int)) (by omega);have hj':j=l.length:=(by omega);subst hj';simp only[e1,A7];exact⟨_,rfl,lev,lft,rdy,rfl,hk⟩) (S2 N A C fan done a l 0 lev lft rdy) ⟨0,lev,lft,rdy,rfl,B0 _,h⟩
 exact⟨lev',lft',rdy',by rw[h1,h2],h3⟩
structure KO(N:NodeL)(D lev lft rdy:List Int):Prop where
 ki:KI N D (λ_=>0) lft rdy
 ll:lev.length=N.length
 up:Up N D lev
 b0:∀i,i<N.length->0<=lev[i]?.getD 0/\lev[i]?.getD 0<=D.length
 pre:∃t,rdy=D++t
theorem KO.begin{D:List Int}{a:Int}{t lev lft:List Int}{l:List (Int×Int)}(h:KO N D lev lft (D++a::t)):KJ N D a l 0 lev lft (D++a::t) where
 ki:={ h.ki with cnt:=λi hi=>by rw[h.ki.cnt i hi];simp }
 ll:=h.ll
 up:=h.up
 ua:=λe he=>by simp at he
 b0:=λi hi=>by have:=h.b0 i hi;exact⟨this.1,by omega⟩
 ba:=by have:=h.ki.rr a (B9 _ (Bk ..));exact(h.b0 a.toNat (by obtain⟨q1,q2⟩:=this;omega)).2
 pre:=⟨t,rfl⟩
theorem KJ.fin{D:List Int}{a:Int}{lev lft rdy:List Int}{l:List (Int×Int)}(he:Edges N a l)(h:KJ N D a l l.length lev lft rdy):KO N (D++[a]) lev lft rdy:=by
 obtain⟨t,ht⟩:=h.pre;have hd:a∉D:=by have:=h.ki.rn;rw[ht,List.nodup_append]at this;exact λha=>this.2.2 a ha a (Bk ..) rfl
 refine⟨{ h.ki with cnt:=λi hi=> ?_ },h.ll,λi hi hc x hx hxD=> ?_,λi hi=> ?_,⟨t,by rw[ht];simp⟩⟩
 ·rw[h.ki.cnt i hi,cp_add hd,Ak,he.c i hi];split<;>omega
 ·rcases Ad.1 hxD with hxD|hxD
  ·exact h.up i hi hc x hx hxD
  ·obtain rfl:=Ai.1 hxD;have h1:0<l.countP (λe=>e.1==(i:Int)):=(by rw[he.c i hi];exact List.count_pos_iff.2 hx);obtain⟨e,h2,h3⟩:=List.countP_pos_iff.1 h1;have h3:e.1=(i:Int):=Av.1 h3;have h4:=h.ua e (by rw[Ak];exact h2) (by rw[h3,AC];exact hc);rwa [h3,AC]at h4
 ·have:=h.b0 i hi;rw[AL,Bi];exact⟨this.1,by omega⟩
abbrev S1(N:NodeL)(A:List (List UInt8))(C:List Int)(fan:List (List (Int×Int)))(d:Nat)(lev lft rdy:List Int):M71.p1X:=⟨0,N.length,N.length,0,N.length,N.length,0,rdy.length,fan,(d:Int),N,A,[],C,lev,lft,rdy⟩
theorem m71_1(hN:N.length<=20)(few:∀i,(pn N i).length<=1000000)(hf:fan.length=N.length)(hfe:∀a,a<N.length->Edges N (a:Int) (fan[a]?.getD []))(hfl:∀a,a<N.length->(fan[a]?.getD []).length<=1000000){lev lft rdy:List Int}(h:KO N [] lev lft rdy):
  ∃lev' lft' rdy':List Int,iter M71.s1 (S1 N A C fan 0 lev lft rdy)=some ⟨lev',(rdy'.length:Int),N,A,[],C⟩/\KO N rdy' lev' lft' rdy':=by
 obtain⟨y,h1,lev',lft',rdy',h2,h3⟩:=iter_inv (step:=M71.s1) (λx=>∃d lev lft rdy,x=S1 N A C fan d lev lft rdy/\d<=rdy.length/\KO N (rdy.take d) lev lft rdy) (λx=>N.length - x.done.toNat)
  (λy=>∃lev lft rdy:List Int,y=(⟨lev,(rdy.length:Int),N,A,[],C⟩:M71.q1X)/\KO N rdy lev lft rdy) (by
   rintro x ⟨d,lev,lft,rdy,rfl,hd,hk⟩;have hrl:rdy.length<=N.length:=nodup_len hk.ki.rn hk.ki.rr;unfold M71.s1;by_cases hlt:d<rdy.length
   ·have e1:=ilt (a:=(d:Int)) (b:=(rdy.length:Int)) (by omega);have hr:=hk.ki.rr rdy[d] (AH hlt);have hn:rdy[d].toNat<N.length:=(by obtain⟨q1,q2⟩:=hr;omega);have hrf:In fan.length rdy[d]:=(by rw[hf];exact hr);have hsplit:rdy=rdy.take d++rdy[d]::rdy.drop (d+1):=(by rw[List.getElem_cons_drop,Bh]);have hE:Edges N rdy[d] (fan[rdy[d].toNat]?.getD []):=(by have:=hfe _ hn;rwa [By hr.1]at this);have hk':KO N (rdy.take d) lev lft (rdy.take d++rdy[d]::rdy.drop (d+1)):=(by rw[<-hsplit];exact hk);have hj:=hk'.begin (l:=fan[rdy[d].toNat]?.getD []);rw[<-hsplit]at hj;simp only[e1,inR_nat hlt,A5,AI,AC,dlt hlt,hlt,A4,BC,inR_int hrf,suc (i:=d) (by omega)];have htl:(rdy.take d).length<=20:=(by rw[Ar];omega);by_cases h0:(fan[rdy[d].toNat]?.getD []).length=0
    ·have g:(((fan[rdy[d].toNat]?.getD []).length:Int)==0)=true:=Av.2 (by omega);simp only[g,A5];have h5:KJ N (rdy.take d) rdy[d] (fan[rdy[d].toNat]?.getD []) (fan[rdy[d].toNat]?.getD []).length lev lft rdy:=(by rw[h0];exact hj);have h6:=h5.fin hE;rw[<-take_succ' hlt]at h6;exact⟨_,rfl,⟨d+1,lev,lft,rdy,rfl,hlt,h6⟩,by simp;omega⟩
    ·have g:(((fan[rdy[d].toNat]?.getD []).length:Int)==0)=false:=Ae.2 (by omega);obtain⟨lev',lft',rdy',h5,h6⟩:=m71_2 (N:=N) (A:=A) (C:=C) (fan:=fan) (done:=((d+1:Nat):Int)) hE hN few (hfl _ hn) htl hr hj;have h7:=h6.fin hE;rw[<-take_succ' hlt]at h7;obtain⟨t,ht⟩:=h7.pre;have h8:rdy.take (d+1)=rdy'.take (d+1):=(by rw[ht,CM (by rw[Ar];omega),List.take_take,Nat.min_self]);have h9:d+1<=rdy'.length:=(by rw[ht,AL,Ar];omega);rw[h8]at h7;have h5':iter M71.s2 { out_lo:=0,out_len:=N.length,out_cap:=N.length,left_lo:=0,left_len:=N.length,left_cap:=N.length,ready_lo:=0,ready_len:=rdy.length,fan:=fan,done:=((d+1:Nat):Int),k:=rdy[d],l:=fan[rdy[d].toNat]?.getD [],n:=((fan[rdy[d].toNat]?.getD []).length:Int),i:=0,nodes:=N,names:=A,mems:=[],outs:=C,lev:=lev,lft:=lft,rdy:=rdy }=some (Q2 N A C fan ((d+1:Nat):Int) lev' lft' rdy'):=h5;simp only[g,A7,h5',bindO];exact⟨_,rfl,⟨d+1,lev',lft',rdy',rfl,h9,h7⟩,by simp;omega⟩
   ·have e1:=inlt (a:=(d:Int)) (b:=(rdy.length:Int)) (by omega);have hd':d=rdy.length:=(by omega);subst hd';rw[Ak]at hk;simp only[e1,A7,AI,leB_of (Nat.le_of_eq hk.ll.symm),AG,A5];exact⟨_,rfl,lev,lft,rdy,by simp[<-hk.ll],hk⟩) (S1 N A C fan 0 lev lft rdy) ⟨0,lev,lft,rdy,rfl,B0 _,by rw[CJ];exact h⟩
 exact⟨lev',lft',rdy',by rw[h1,h2],h3⟩
end
end Co
end
section
open Go.Abs
namespace M115
structure gX where(x:Int)
def g:Sg gX:=⟨[.c (.it .i64)],[],λa b=>⟨a.1⟩,λx=>(x.x,()),λx=>()⟩
abbrev fY:=Bool
def f:Ft fY:=⟨none,.c (.bo),[],λa b=>(a),λy=>y,λy=>()⟩
def cl:List (FuncId×Con):=[]
theorem cl_ok:Q8 Tryz.prog cl:=trivial
def E0:Env:=⟨ty,QE cl,λ_=>none,none⟩
def m(x:gX):Option fY:=some (x.x !=x.x)
theorem m_eq(x:gX):exec E0 6 C115 0 (QD 0 (g.A x)) (g.H x) (finish 0 ty [.tmp 2] f)=m x:=by kernel_rfl
theorem tl:QA C115 0=[]:=by kernel_rfl
theorem known:QB Tryz.prog 115 g f m:=
 Q5 mixed (Q4 ty_ok cl_ok _) s115 rfl rfl tl Q7.nil (λ_ _=>⟨rfl,rfl⟩) (λ_ _=>⟨rfl,rfl⟩) m_eq
def con:Con:=Qa g f m default
theorem con_ok:QC Tryz.prog 115 con:=Q9 known (λ_=>rfl) rfl
end M115
namespace M74
structure gX where(x y:Int)
def g:Sg gX:=⟨[.c (.it .i64),.c (.it .i64)],[],λa b=>⟨a.1,a.2.1⟩,λx=>(x.x,(x.y,())),λx=>()⟩
abbrev fY:=Int
def f:Ft fY:=⟨none,.c (.it .i64),[],λa b=>(a),λy=>y,λy=>()⟩
def cl:List (FuncId×Con):=[(115,M115.con)]
theorem cl_ok:Q8 Tryz.prog cl:=⟨M115.con_ok,trivial⟩
def E0:Env:=⟨ty,QE cl,λ_=>none,none⟩
def m(x:gX):Option fY:=bindO (M115.m ⟨x.x⟩) λy=>bindO (M115.m ⟨x.y⟩) λy_1=>bif y then bif y_1 then some 0 else some (-1) else bif y_1 then some 1 else bif decide (x.x<x.y) then some (-1) else bif decide (x.x>x.y) then some 1 else some 0
theorem m_eq(x:gX):exec E0 20 C74 0 (QD 0 (g.A x)) (g.H x) (finish 0 ty [.tmp 4] f)=m x:=by kernel_rfl
theorem tl:QA C74 0=[]:=by kernel_rfl
theorem known:QB Tryz.prog 74 g f m:=
 Q5 mixed (Q4 ty_ok cl_ok _) s74 rfl rfl tl Q7.nil (λ_ _=>⟨rfl,rfl⟩) (λ_ _=>⟨rfl,rfl⟩) m_eq
def con:Con:=Qa g f m default
theorem con_ok:QC Tryz.prog 74 con:=Q9 known (λ_=>rfl) rfl
end M74
namespace M73
structure gX where(a b:Int)(lv:List (Int))
def g:Sg gX:=⟨[.c (.it .i64),.c (.it .i64),.c (.ptr 0 0)],[.st [.arr (.int .i64)] 1 0],λa b=>⟨a.1,a.2.1,b.1.1⟩,λx=>(x.a,(x.b,((),()))),λx=>((x.lv,()),())⟩
abbrev fY:=Int×List (Int)
def f:Ft fY:=⟨none,.c (.it .i64),[.st [.arr (.int .i64)] 1 0],λa b=>(a,b.1.1),λy=>y.1,λy=>((y.2,()),())⟩
def cl:List (FuncId×Con):=[(74,M74.con)]
theorem cl_ok:Q8 Tryz.prog cl:=⟨M74.con_ok,trivial⟩
def E0:Env:=⟨ty,QE cl,λ_=>none,none⟩
def m(x:gX):Option fY:=bif inR x.a x.lv.length then bif inR x.b x.lv.length then bindO (M74.m ⟨x.lv[x.a.toNat]?.getD 0,x.lv[x.b.toNat]?.getD 0⟩) λy=>some (y,x.lv) else none else none
theorem m_eq(x:gX):exec E0 15 C73 0 (QD 0 (g.A x)) (g.H x) (finish 1 ty [.tmp 5] f)=m x:=by kernel_rfl
theorem tl:QA C73 0=[]:=by kernel_rfl
theorem known:QB Tryz.prog 73 g f m:=
 Q5 mixed (Q4 ty_ok cl_ok _) s73 rfl rfl tl Q7.nil (λ_ _=>⟨rfl,rfl⟩) (λ_ _=>⟨rfl,rfl⟩) m_eq
theorem hh{x:gX}{y:fY}(h:m x=some y):f.H y=g.H x:=by
 unfold m at h;rcases cond_some h with ⟨_,h⟩|⟨_,h⟩
 ·rcases cond_some h with ⟨_,h⟩|⟨_,h⟩
  ·obtain⟨_,_,h⟩:=QK h;cases h;rfl
  ·cases h
 ·cases h
def con:Con:=ZR g [.arg 2 0] f m default
theorem con_ok:QC Tryz.prog 73 con:=J4 known (λ_=>rfl) (λ_ _ h=>by exact hh h)
end M73
namespace M146
structure gX where(data_lo data_len data_cap:Nat)(a b:Int)(xs lv:List (Int))
def g:Sg gX:=⟨[.c (.slc 0 0 1),.c (.it .i64),.c (.it .i64),.c (.clo 73 [⟨1,0,0⟩])],[.arr (.int .i64) 0,.st [.arr (.int .i64)] 1 0],λa b=>⟨a.1.1,a.1.2.1,a.1.2.2,a.2.1,a.2.2.1,b.1,b.2.1.1⟩,λx=>((x.data_lo,x.data_len,x.data_cap),(x.a,(x.b,((),())))),λx=>(x.xs,((x.lv,()),()))⟩
abbrev fY:=List (Int)×List (Int)
def f:Ft fY:=⟨none,.tup [],[.arr (.int .i64) 0,.st [.arr (.int .i64)] 1 0],λa b=>(b.1,b.2.1.1),λy=>(),λy=>(y.1,((y.2,()),()))⟩
def cl:List (FuncId×Con):=[(73,M73.con)]
theorem cl_ok:Q8 Tryz.prog cl:=⟨M73.con_ok,trivial⟩
def E2:Env:=⟨ty,QE cl,λ_=>none,none⟩
structure p1X where(data_lo data_len data_cap:Nat)(a b i j:Int)(xs lv:List (Int))
def p1:Pt p1X where
 own:=[]
 t:=⟨[(0,.c (.slc 0 0 1)),(1,.c (.it .i64)),(2,.c (.it .i64)),(3,.c (.clo 73 [⟨1,0,0⟩])),(8,.c (.it .i64)),(9,.c (.it .i64))],[.arr (.int .i64) 0,.st [.arr (.int .i64)] 1 0]⟩
 to:=λv=>⟨v.1.1.1,v.1.1.2.1,v.1.1.2.2,v.1.2.1,v.1.2.2.1,v.1.2.2.2.2.1,v.1.2.2.2.2.2.1,v.2.1,v.2.2.1.1⟩
 fr:=λx=>(((x.data_lo,x.data_len,x.data_cap),(x.a,(x.b,((),(x.i,(x.j,())))))),(x.xs,((x.lv,()),())))
structure q1X where(data_lo data_len data_cap:Nat)(a b i:Int)(xs lv:List (Int))
def q1:Pt q1X where
 own:=[]
 t:=⟨[(0,.c (.slc 0 0 1)),(1,.c (.it .i64)),(2,.c (.it .i64)),(3,.c (.clo 73 [⟨1,0,0⟩])),(8,.c (.it .i64))],[.arr (.int .i64) 0,.st [.arr (.int .i64)] 1 0]⟩
 to:=λv=>⟨v.1.1.1,v.1.1.2.1,v.1.1.2.2,v.1.2.1,v.1.2.2.1,v.1.2.2.2.2.1,v.2.1,v.2.2.1.1⟩
 fr:=λx=>(((x.data_lo,x.data_len,x.data_cap),(x.a,(x.b,((),(x.i,()))))),(x.xs,((x.lv,()),())))
def s1(x:p1X):Option (p1X⊕q1X):=bif inR x.j x.data_len||!decide (x.j>x.a) then bif decide (x.data_lo+x.j.toNat<x.xs.length)||!decide (x.j>x.a) then bif inR (IntKind.i64.wrap (x.j - 1)) x.data_len||!decide (x.j>x.a) then bif decide (x.data_lo+(IntKind.i64.wrap (x.j - 1)).toNat<x.xs.length)||!decide (x.j>x.a) then bindO (bif decide (x.j>x.a) then M73.m ⟨x.xs[x.data_lo+x.j.toNat]?.getD 0,x.xs[x.data_lo+(IntKind.i64.wrap (x.j - 1)).toNat]?.getD 0,x.lv⟩ else some (Int.ofNat 0,[])) λy=>bif bif decide (x.j>x.a) then decide (y.1<0) else false then bif inR (IntKind.i64.wrap (x.j - 1)) x.data_len then bif decide (x.data_lo+(IntKind.i64.wrap (x.j - 1)).toNat<x.xs.length) then bif inR x.j x.data_len then bif decide (x.data_lo+x.j.toNat<x.xs.length) then bif inR x.j x.data_len then bif decide (x.data_lo+x.j.toNat<x.xs.length) then bif inR (IntKind.i64.wrap (x.j - 1)) x.data_len then bif decide (x.data_lo+(IntKind.i64.wrap (x.j - 1)).toNat<(x.xs.set (x.data_lo+x.j.toNat) (x.xs[x.data_lo+(IntKind.i64.wrap (x.j - 1)).toNat]?.getD 0)).length) then some (Sum.inl ⟨x.data_lo,x.data_len,x.data_cap,x.a,x.b,x.i,IntKind.i64.wrap (x.j - 1),(x.xs.set (x.data_lo+x.j.toNat) (x.xs[x.data_lo+(IntKind.i64.wrap (x.j - 1)).toNat]?.getD 0)).set (x.data_lo+(IntKind.i64.wrap (x.j - 1)).toNat) (x.xs[x.data_lo+x.j.toNat]?.getD 0),x.lv⟩) else none else none else none else none else none else none else none else none else some (Sum.inr ⟨x.data_lo,x.data_len,x.data_cap,x.a,x.b,x.i,x.xs,x.lv⟩) else none else none else none else none
theorem s1_eq(x:p1X):exec E2 53 (C146.Q0 1) 2 (p1.R x) (p1.H x) (QP 2 p1 (.exit 2) q1)=s1 x:=by kernel_rfl
def l1:QJ:=QQ 2 p1 (.exit 2) q1 s1
theorem tl1:QA (C146.Q0 1) 2=[]:=by kernel_rfl
theorem l1_ok  :QF Tryz.prog 53 none 2 (C146.Q0 1) l1:=QG mixed (Q4 ty_ok cl_ok _) (by trivial) (λ_=>rfl) (λ_=>rfl) (tl1▸Q7.nil) s1_eq
def E1:Env:=⟨ty,QE cl,Qi [(1,l1)],none⟩
structure p0X where(data_lo data_len data_cap:Nat)(a b i:Int)(xs lv:List (Int))
def p0:Pt p0X where
 own:=[]
 t:=⟨[(0,.c (.slc 0 0 1)),(1,.c (.it .i64)),(2,.c (.it .i64)),(3,.c (.clo 73 [⟨1,0,0⟩])),(8,.c (.it .i64))],[.arr (.int .i64) 0,.st [.arr (.int .i64)] 1 0]⟩
 to:=λv=>⟨v.1.1.1,v.1.1.2.1,v.1.1.2.2,v.1.2.1,v.1.2.2.1,v.1.2.2.2.2.1,v.2.1,v.2.2.1.1⟩
 fr:=λx=>(((x.data_lo,x.data_len,x.data_cap),(x.a,(x.b,((),(x.i,()))))),(x.xs,((x.lv,()),())))
structure q0X where(xs lv:List (Int))
def q0:Pt q0X where
 own:=[]
 t:=⟨[],[.arr (.int .i64) 0,.st [.arr (.int .i64)] 1 0]⟩
 to:=λv=>⟨v.2.1,v.2.2.1.1⟩
 fr:=λx=>((),(x.xs,((x.lv,()),())))
def s0(x:p0X):Option (p0X⊕q0X):=bif decide (x.i<x.b) then bindO (iter s1 ⟨x.data_lo,x.data_len,x.data_cap,x.a,x.b,x.i,x.i,x.xs,x.lv⟩) λy=>some (Sum.inl ⟨y.data_lo,y.data_len,y.data_cap,y.a,y.b,IntKind.i64.wrap (y.i+1),y.xs,y.lv⟩) else some (Sum.inr ⟨x.xs,x.lv⟩)
theorem s0_eq(x:p0X):exec E1 53 (C146.Q0 0) 1 (p0.R x) (p0.H x) (QP 2 p0 (.exit 0) q0)=s0 x:=by kernel_rfl
def l0:QJ:=QQ 2 p0 (.exit 0) q0 s0
theorem tl0:QA (C146.Q0 0) 1=[(1,C146.Q0 1)]:=by kernel_rfl
theorem l0_ok  :QF Tryz.prog 53 none 2 (C146.Q0 0) l0:=QG mixed (Q4 ty_ok cl_ok _) (by trivial) (λ_=>rfl) (λ_=>rfl) (tl0▸(Q7.cons rfl l1_ok Q7.nil)) s0_eq
def E0:Env:=⟨ty,QE cl,Qi [(0,l0),(1,l1)],none⟩
def m(x:gX):Option fY:=bindO (iter s0 ⟨x.data_lo,x.data_len,x.data_cap,x.a,x.b,IntKind.i64.wrap (x.a+1),x.xs,x.lv⟩) λy=>some (y.xs,y.lv)
theorem m_eq(x:gX):exec E0 53 C146 0 (QD 0 (g.A x)) (g.H x) (finish 2 ty [] f)=m x:=by kernel_rfl
theorem tl:QA C146 0=[(0,C146.Q0 0)]:=by kernel_rfl
theorem known:QB Tryz.prog 146 g f m:=
 Q5 mixed (Q4 ty_ok cl_ok _) s146 rfl rfl tl (Q7.cons rfl l0_ok Q7.nil) (λ_ _=>⟨rfl,rfl⟩) (λ_ _=>⟨rfl,rfl⟩) m_eq
def con:Con:=Km g [.arg 0 0,.arg 3 0] f m default
theorem con_ok:QC Tryz.prog 146 con:=Jn known
end M146
namespace M114
structure gX where(data_lo data_len data_cap:Nat)(n:Int)(xs lv:List (Int))
def g:Sg gX:=⟨[.c (.slc 0 0 1),.c (.it .i64),.c (.clo 73 [⟨1,0,0⟩])],[.arr (.int .i64) 0,.st [.arr (.int .i64)] 1 0],λa b=>⟨a.1.1,a.1.2.1,a.1.2.2,a.2.1,b.1,b.2.1.1⟩,λx=>((x.data_lo,x.data_len,x.data_cap),(x.n,((),()))),λx=>(x.xs,((x.lv,()),()))⟩
abbrev fY:=List (Int)×List (Int)
def f:Ft fY:=⟨none,.tup [],[.arr (.int .i64) 0,.st [.arr (.int .i64)] 1 0],λa b=>(b.1,b.2.1.1),λy=>(),λy=>(y.1,((y.2,()),()))⟩
def cl:List (FuncId×Con):=[(146,M146.con)]
theorem cl_ok:Q8 Tryz.prog cl:=⟨M146.con_ok,trivial⟩
def E3:Env:=⟨ty,QE cl,λ_=>none,none⟩
structure p2X where(data_lo data_len data_cap:Nat)(n bs a b:Int)(xs lv:List (Int))
def p2:Pt p2X where
 own:=[]
 t:=⟨[(0,.c (.slc 0 0 1)),(1,.c (.it .i64)),(2,.c (.clo 73 [⟨1,0,0⟩])),(6,.c (.it .i64)),(7,.c (.it .i64)),(8,.c (.it .i64))],[.arr (.int .i64) 0,.st [.arr (.int .i64)] 1 0]⟩
 to:=λv=>⟨v.1.1.1,v.1.1.2.1,v.1.1.2.2,v.1.2.1,v.1.2.2.2.1,v.1.2.2.2.2.1,v.1.2.2.2.2.2.1,v.2.1,v.2.2.1.1⟩
 fr:=λx=>(((x.data_lo,x.data_len,x.data_cap),(x.n,((),(x.bs,(x.a,(x.b,())))))),(x.xs,((x.lv,()),())))
structure q2X where(data_lo data_len data_cap:Nat)(n bs a:Int)(xs lv:List (Int))
def q2:Pt q2X where
 own:=[]
 t:=⟨[(0,.c (.slc 0 0 1)),(1,.c (.it .i64)),(2,.c (.clo 73 [⟨1,0,0⟩])),(6,.c (.it .i64)),(7,.c (.it .i64))],[.arr (.int .i64) 0,.st [.arr (.int .i64)] 1 0]⟩
 to:=λv=>⟨v.1.1.1,v.1.1.2.1,v.1.1.2.2,v.1.2.1,v.1.2.2.2.1,v.1.2.2.2.2.1,v.2.1,v.2.2.1.1⟩
 fr:=λx=>(((x.data_lo,x.data_len,x.data_cap),(x.n,((),(x.bs,(x.a,()))))),(x.xs,((x.lv,()),())))
def s2(x:p2X):Option (p2X⊕q2X):=bif decide (x.b<=x.n) then none else some (Sum.inr ⟨x.data_lo,x.data_len,x.data_cap,x.n,x.bs,x.a,x.xs,x.lv⟩)
theorem s2_eq(x:p2X):exec E3 63 (C114.Q0 2) 3 (p2.R x) (p2.H x) (QP 2 p2 (.exit 4) q2)=s2 x:=by kernel_rfl
def l2:QJ:=QQ 2 p2 (.exit 4) q2 s2
theorem tl2:QA (C114.Q0 2) 3=[]:=by kernel_rfl
theorem l2_ok  :QF Tryz.prog 63 none 2 (C114.Q0 2) l2:=QG mixed (Q4 ty_ok cl_ok _) (by trivial) (λ_=>rfl) (λ_=>rfl) (tl2▸Q7.nil) s2_eq
def E2:Env:=⟨ty,QE cl,Qi [(2,l2)],none⟩
structure p1X where(data_lo data_len data_cap:Nat)(n bs:Int)(xs lv:List (Int))
def p1:Pt p1X where
 own:=[]
 t:=⟨[(0,.c (.slc 0 0 1)),(1,.c (.it .i64)),(2,.c (.clo 73 [⟨1,0,0⟩])),(6,.c (.it .i64))],[.arr (.int .i64) 0,.st [.arr (.int .i64)] 1 0]⟩
 to:=λv=>⟨v.1.1.1,v.1.1.2.1,v.1.1.2.2,v.1.2.1,v.1.2.2.2.1,v.2.1,v.2.2.1.1⟩
 fr:=λx=>(((x.data_lo,x.data_len,x.data_cap),(x.n,((),(x.bs,())))),(x.xs,((x.lv,()),())))
structure q1X where(xs lv:List (Int))
def q1:Pt q1X where
 own:=[]
 t:=⟨[],[.arr (.int .i64) 0,.st [.arr (.int .i64)] 1 0]⟩
 to:=λv=>⟨v.2.1,v.2.2.1.1⟩
 fr:=λx=>((),(x.xs,((x.lv,()),())))
def s1(x:p1X):Option (p1X⊕q1X):=bif decide (x.bs<x.n) then bindO (iter s2 ⟨x.data_lo,x.data_len,x.data_cap,x.n,x.bs,0,IntKind.i64.wrap (2*x.bs),x.xs,x.lv⟩) λy=>bif decide (IntKind.i64.wrap (y.a+y.bs)<y.n) then none else some (Sum.inl ⟨y.data_lo,y.data_len,y.data_cap,y.n,IntKind.i64.wrap (y.bs*2),y.xs,y.lv⟩) else some (Sum.inr ⟨x.xs,x.lv⟩)
theorem s1_eq(x:p1X):exec E2 63 (C114.Q0 1) 2 (p1.R x) (p1.H x) (QP 2 p1 (.exit 2) q1)=s1 x:=by kernel_rfl
def l1:QJ:=QQ 2 p1 (.exit 2) q1 s1
theorem tl1:QA (C114.Q0 1) 2=[(2,C114.Q0 2)]:=by kernel_rfl
theorem l1_ok  :QF Tryz.prog 63 none 2 (C114.Q0 1) l1:=QG mixed (Q4 ty_ok cl_ok _) (by trivial) (λ_=>rfl) (λ_=>rfl) (tl1▸(Q7.cons rfl l2_ok Q7.nil)) s1_eq
def E1:Env:=⟨ty,QE cl,Qi [(1,l1),(2,l2)],none⟩
structure p0X where(data_lo data_len data_cap:Nat)(n bs a b:Int)(xs lv:List (Int))
def p0:Pt p0X where
 own:=[]
 t:=⟨[(0,.c (.slc 0 0 1)),(1,.c (.it .i64)),(2,.c (.clo 73 [⟨1,0,0⟩])),(6,.c (.it .i64)),(7,.c (.it .i64)),(8,.c (.it .i64))],[.arr (.int .i64) 0,.st [.arr (.int .i64)] 1 0]⟩
 to:=λv=>⟨v.1.1.1,v.1.1.2.1,v.1.1.2.2,v.1.2.1,v.1.2.2.2.1,v.1.2.2.2.2.1,v.1.2.2.2.2.2.1,v.2.1,v.2.2.1.1⟩
 fr:=λx=>(((x.data_lo,x.data_len,x.data_cap),(x.n,((),(x.bs,(x.a,(x.b,())))))),(x.xs,((x.lv,()),())))
structure q0X where(data_lo data_len data_cap:Nat)(n bs a:Int)(xs lv:List (Int))
def q0:Pt q0X where
 own:=[]
 t:=⟨[(0,.c (.slc 0 0 1)),(1,.c (.it .i64)),(2,.c (.clo 73 [⟨1,0,0⟩])),(6,.c (.it .i64)),(7,.c (.it .i64))],[.arr (.int .i64) 0,.st [.arr (.int .i64)] 1 0]⟩
 to:=λv=>⟨v.1.1.1,v.1.1.2.1,v.1.1.2.2,v.1.2.1,v.1.2.2.2.1,v.1.2.2.2.2.1,v.2.1,v.2.2.1.1⟩
 fr:=λx=>(((x.data_lo,x.data_len,x.data_cap),(x.n,((),(x.bs,(x.a,()))))),(x.xs,((x.lv,()),())))
def s0(x:p0X):Option (p0X⊕q0X):=bif decide (x.b<=x.n) then bindO (M146.m ⟨x.data_lo,x.data_len,x.data_cap,x.a,x.b,x.xs,x.lv⟩) λy=>some (Sum.inl ⟨x.data_lo,x.data_len,x.data_cap,x.n,x.bs,x.b,IntKind.i64.wrap (x.b+x.bs),y.1,y.2⟩) else some (Sum.inr ⟨x.data_lo,x.data_len,x.data_cap,x.n,x.bs,x.a,x.xs,x.lv⟩)
theorem s0_eq(x:p0X):exec E1 63 (C114.Q0 0) 1 (p0.R x) (p0.H x) (QP 2 p0 (.exit 0) q0)=s0 x:=by kernel_rfl
def l0:QJ:=QQ 2 p0 (.exit 0) q0 s0
theorem tl0:QA (C114.Q0 0) 1=[]:=by kernel_rfl
theorem l0_ok  :QF Tryz.prog 63 none 2 (C114.Q0 0) l0:=QG mixed (Q4 ty_ok cl_ok _) (by trivial) (λ_=>rfl) (λ_=>rfl) (tl0▸Q7.nil) s0_eq
def E0:Env:=⟨ty,QE cl,Qi [(0,l0),(1,l1),(2,l2)],none⟩
def m(x:gX):Option fY:=bindO (iter s0 ⟨x.data_lo,x.data_len,x.data_cap,x.n,20,0,20,x.xs,x.lv⟩) λy=>bindO (M146.m ⟨y.data_lo,y.data_len,y.data_cap,y.a,y.n,y.xs,y.lv⟩) λy_1=>bindO (iter s1 ⟨y.data_lo,y.data_len,y.data_cap,y.n,y.bs,y_1.1,y_1.2⟩) λy=>some (y.xs,y.lv)
theorem m_eq(x:gX):exec E0 63 C114 0 (QD 0 (g.A x)) (g.H x) (finish 2 ty [] f)=m x:=by kernel_rfl
theorem tl:QA C114 0=[(0,C114.Q0 0),(1,C114.Q0 1)]:=by kernel_rfl
theorem known:QB Tryz.prog 114 g f m:=
 Q5 mixed (Q4 ty_ok cl_ok _) s114 rfl rfl tl (Q7.cons rfl l0_ok (Q7.cons rfl l1_ok Q7.nil)) (λ_ _=>⟨rfl,rfl⟩) (λ_ _=>⟨rfl,rfl⟩) m_eq
def con:Con:=Km g [.arg 0 0,.arg 2 0] f m default
theorem con_ok:QC Tryz.prog 114 con:=Jn known
end M114
namespace M72
structure gX where(data_lo data_len data_cap:Nat)(xs lv:List (Int))
def g:Sg gX:=⟨[.c (.slc 0 0 1),.c (.clo 73 [⟨1,0,0⟩])],[.arr (.int .i64) 0,.st [.arr (.int .i64)] 1 0],λa b=>⟨a.1.1,a.1.2.1,a.1.2.2,b.1,b.2.1.1⟩,λx=>((x.data_lo,x.data_len,x.data_cap),((),())),λx=>(x.xs,((x.lv,()),()))⟩
abbrev fY:=List (Int)×List (Int)
def f:Ft fY:=⟨none,.tup [],[.arr (.int .i64) 0,.st [.arr (.int .i64)] 1 0],λa b=>(b.1,b.2.1.1),λy=>(),λy=>(y.1,((y.2,()),()))⟩
def cl:List (FuncId×Con):=[(114,M114.con)]
theorem cl_ok:Q8 Tryz.prog cl:=⟨M114.con_ok,trivial⟩
def E0:Env:=⟨ty,QE cl,λ_=>none,none⟩
def m(x:gX):Option fY:=bindO (M114.m ⟨x.data_lo,x.data_len,x.data_cap,(↑x.data_len:Int),x.xs,x.lv⟩) λy=>some (y.1,y.2)
theorem m_eq(x:gX):exec E0 9 C72 0 (QD 0 (g.A x)) (g.H x) (finish 2 ty [] f)=m x:=by kernel_rfl
theorem tl:QA C72 0=[]:=by kernel_rfl
theorem known:QB Tryz.prog 72 g f m:=
 Q5 mixed (Q4 ty_ok cl_ok _) s72 rfl rfl tl Q7.nil (λ_ _=>⟨rfl,rfl⟩) (λ_ _=>⟨rfl,rfl⟩) m_eq
def con:Con:=Km g [.arg 0 0,.arg 1 0] f m default
theorem con_ok:QC Tryz.prog 72 con:=Jn known
end M72
namespace M40
structure gX where(nodes:List ((Int)×(List (Int))×(Int)×Int))(names:List (List UInt8))(mems:List ((List (Int))×(List (Int))×Int))(outs:List (Int))
def g:Sg gX:=⟨[.agg [.arr (.pair (.int .u8) (.pair (.sl (.int .i64)) (.pair (.int .i64) (.int .i64)))),.arr .str,.arr (.pair (.sl (.int .i64)) (.pair (.sl (.int .i64)) (.int .i64))),.arr (.int .i64)]],[],λa b=>⟨a.1.1,a.1.2.1,a.1.2.2.1,a.1.2.2.2.1⟩,λx=>((x.nodes,(x.names,(x.mems,(x.outs,())))),()),λx=>()⟩
abbrev fY:=List (Int)×Int
def f:Ft fY:=⟨none,.tup [.inl (.arr (.int .i64)),.inl (.it .i64)],[],λa b=>(a.1,a.2.1),λy=>(y.1,(y.2,())),λy=>()⟩
def cl:List (FuncId×Con):=[(71,M71.con),(72,M72.con)]
theorem cl_ok:Q8 Tryz.prog cl:=⟨M71.con_ok,M72.con_ok,trivial⟩
def E1:Env:=⟨ty,QE cl,λ_=>none,none⟩
structure p0X where(out_lo out_len out_cap:Nat)(n i:Int)(nodes:List ((Int)×(List (Int))×(Int)×Int))(names:List (List UInt8))(mems:List ((List (Int))×(List (Int))×Int))(outs lv xs:List (Int))
def p0:Pt p0X where
 own:=[]
 t:=⟨[(4,.c (.ptr 1 0)),(6,.c (.slc 2 0 1)),(21,.c (.it .i64)),(22,.c (.it .i64))],[.st [.arr (.pair (.int .u8) (.pair (.sl (.int .i64)) (.pair (.int .i64) (.int .i64)))),.arr .str,.arr (.pair (.sl (.int .i64)) (.pair (.sl (.int .i64)) (.int .i64))),.arr (.int .i64)] 1 0,.st [.arr (.int .i64)] 1 0,.arr (.int .i64) 0]⟩
 to:=λv=>⟨v.1.2.1.1,v.1.2.1.2.1,v.1.2.1.2.2,v.1.2.2.1,v.1.2.2.2.1,v.2.1.1,v.2.1.2.1,v.2.1.2.2.1,v.2.1.2.2.2.1,v.2.2.1.1,v.2.2.2.1⟩
 fr:=λx=>(((),((x.out_lo,x.out_len,x.out_cap),(x.n,(x.i,())))),((x.nodes,(x.names,(x.mems,(x.outs,())))),((x.lv,()),(x.xs,()))))
structure q0X where(out_lo out_len out_cap:Nat)(nodes:List ((Int)×(List (Int))×(Int)×Int))(names:List (List UInt8))(mems:List ((List (Int))×(List (Int))×Int))(outs lv xs:List (Int))
def q0:Pt q0X where
 own:=[]
 t:=⟨[(4,.c (.ptr 1 0)),(6,.c (.slc 2 0 1))],[.st [.arr (.pair (.int .u8) (.pair (.sl (.int .i64)) (.pair (.int .i64) (.int .i64)))),.arr .str,.arr (.pair (.sl (.int .i64)) (.pair (.sl (.int .i64)) (.int .i64))),.arr (.int .i64)] 1 0,.st [.arr (.int .i64)] 1 0,.arr (.int .i64) 0]⟩
 to:=λv=>⟨v.1.2.1.1,v.1.2.1.2.1,v.1.2.1.2.2,v.2.1.1,v.2.1.2.1,v.2.1.2.2.1,v.2.1.2.2.2.1,v.2.2.1.1,v.2.2.2.1⟩
 fr:=λx=>(((),((x.out_lo,x.out_len,x.out_cap),())),((x.nodes,(x.names,(x.mems,(x.outs,())))),((x.lv,()),(x.xs,()))))
def s0(x:p0X):Option (p0X⊕q0X):=bif decide (x.i<x.n) then bif inR x.i x.out_len then bif decide (x.out_lo+x.i.toNat<x.xs.length) then some (Sum.inl ⟨x.out_lo,x.out_len,x.out_cap,x.n,IntKind.i64.wrap (x.i+1),x.nodes,x.names,x.mems,x.outs,x.lv,x.xs.set (x.out_lo+x.i.toNat) x.i⟩) else none else none else some (Sum.inr ⟨x.out_lo,x.out_len,x.out_cap,x.nodes,x.names,x.mems,x.outs,x.lv,x.xs⟩)
theorem s0_eq(x:p0X):exec E1 34 (C40.Q0 0) 1 (p0.R x) (p0.H x) (QP 0 p0 (.exit 0) q0)=s0 x:=by kernel_rfl
def l0:QJ:=QQ 0 p0 (.exit 0) q0 s0
theorem tl0:QA (C40.Q0 0) 1=[]:=by kernel_rfl
theorem l0_ok  :QF Tryz.prog 34 none 0 (C40.Q0 0) l0:=QG mixed (Q4 ty_ok cl_ok _) (by trivial) (λ_=>rfl) (λ_=>rfl) (tl0▸Q7.nil) s0_eq
def E0:Env:=⟨ty,QE cl,Qi [(0,l0)],none⟩
def m(x:gX):Option fY:=bindO (M71.m ⟨x.nodes,x.names,x.mems,x.outs⟩) λy=>bif y.2 !=0 then some ([],y.2) else bif decide (0<=(↑x.nodes.length:Int))&&decide ((↑x.nodes.length:Int)<=(↑x.nodes.length:Int))&&decide ((↑x.nodes.length:Int)*(↑8:Int)<=281474976710656)&&decide ((↑x.nodes.length:Int)<=9223372036854775807) then bindO (iter s0 ⟨0,(↑x.nodes.length:Int).toNat,(↑x.nodes.length:Int).toNat,(↑(↑x.nodes.length:Int).toNat:Int),0,x.nodes,x.names,x.mems,x.outs,y.1,List.replicate (↑x.nodes.length:Int).toNat (0:Int)⟩) λy=>bindO (M72.m ⟨y.out_lo,y.out_len,y.out_cap,y.xs,y.lv⟩) λy_1=>bif leB (y.out_lo+y.out_len) y_1.1.length&&true&&true&&true then some (List.take y.out_len (List.drop y.out_lo y_1.1),0) else none else none
theorem m_eq(x:gX):exec E0 34 C40 0 (QD 0 (g.A x)) (g.H x) (finish 0 ty [.tmp 2,.tmp 3] f)=m x:=by kernel_rfl
theorem tl:QA C40 0=[(0,C40.Q0 0)]:=by kernel_rfl
theorem known:QB Tryz.prog 40 g f m:=
 Q5 mixed (Q4 ty_ok cl_ok _) s40 rfl rfl tl (Q7.cons rfl l0_ok Q7.nil) (λ_ _=>⟨rfl,rfl⟩) (λ_ _=>⟨rfl,rfl⟩) m_eq
def con:Con:=Qa g f m default
theorem con_ok:QC Tryz.prog 40 con:=Q9 known (λ_=>rfl) rfl
end M40
end
section
open Go.Abs
namespace Co
def Topo(N:NodeL):Prop:=∀i,i<N.length->cm N i=true->∀a∈pn N i,0<=a/\a<i
def lf0(N:NodeL)(i:Nat):Int:=if cm N i=true then ((pn N i).length:Int) else 0
def lfn(N:NodeL)(i:Nat):List Int:=(List.range N.length).map λk=>if k<i then lf0 N k else 0
def rdn(N:NodeL)(i:Nat):List Int:=(nums i).filter λa=>lf0 N a.toNat==0
theorem nums_succ(i:Nat):nums (i+1)=nums i++[(i:Int)]:=by simp[nums,List.range_succ]
theorem lfn_at{N:NodeL}{i k:Nat}(hk:k<N.length):(lfn N i)[k]?.getD 0=if k<i then lf0 N k else 0:=by simp[lfn,hk]
theorem lfn_len{N:NodeL}{i:Nat}:(lfn N i).length=N.length:=by simp[lfn]
theorem lfn_set{N:NodeL}{i:Nat}{v:Int}(h:i<N.length)(hv:v=lf0 N i):(lfn N i).set i v=lfn N (i+1):=by
 refine C1 (by simp[lfn]) λk h1 h2=> ?_;have hk:k<N.length:=by simpa [lfn] using h2
 rw[C0];simp only[lfn,AX,List.getElem_range];by_cases e:i=k
 ·subst e;rw[AF rfl,AF (by omega),hv]
 ·rw[AP e];by_cases e2:k<i
  ·rw[AF e2,AF (by omega)]
  ·rw[AP e2,AP (by omega)]
theorem lfn_keep{N:NodeL}{i:Nat}(h:i<N.length)(hv:lf0 N i=0):lfn N (i+1)=lfn N i:=by
 rw[<-lfn_set h rfl,hv];refine C1 (by simp) λk h1 h2=> ?_;rw[C0];by_cases e:i=k
 ·subst e;rw[AF rfl];simp[lfn]
 ·rw[AP e]
theorem rdn_yes{N:NodeL}{i:Nat}(h:lf0 N i=0):rdn N (i+1)=rdn N i++[(i:Int)]:=by simp[rdn,nums_succ,C2,h]
theorem rdn_no{N:NodeL}{i:Nat}(h:lf0 N i≠0):rdn N (i+1)=rdn N i:=by simp[rdn,nums_succ,C2,h]
theorem rdn_len{N:NodeL}{i:Nat}:(rdn N i).length<=i:=by have:=C7 (λa=>lf0 N a.toNat==0) (nums i);rwa [nums_len]at this
section
variable {N:NodeL}{A:List (List UInt8)}{C:List Int}
theorem m71_0{lev:List Int}(hN:N.length<=19):iter M71.s0 ⟨0,N.length,N.length,0,N.length,N.length,0,0,N,(N.length:Int),0,N,A,[],C,lev,List.replicate N.length 0,[]⟩=some ⟨0,N.length,N.length,0,N.length,N.length,0,(rdn N N.length).length,N,A,[],C,lev,lfn N N.length,rdn N N.length⟩:=by
 have key:=iter_count (step:=M71.s0) (λi=>⟨0,N.length,N.length,0,N.length,N.length,0,(rdn N i).length,N,(N.length:Int),(i:Int),N,A,[],C,lev,lfn N i,rdn N i⟩) (y:=⟨0,N.length,N.length,0,N.length,N.length,0,(rdn N N.length).length,N,A,[],C,lev,lfn N N.length,rdn N N.length⟩) N.length (λi hi=>by
  have e1:=ilt (a:=(i:Int)) (b:=(N.length:Int)) (by omega);have e4:isC (N[i]?.getD (0,[],0,0)).1=cm N i:=rfl;have e5:(N[i]?.getD (0,[],0,0)).2.1=pn N i:=rfl;have hl:i<(lfn N i).length:=(by rw[lfn_len];exact hi);unfold M71.s0;simp only[e1,inR_nat hi,A5,AC,m43,bindO,e4,AI,e5,dlt hl,suc (i:=i) (by omega)];have hrl:=rdn_len (N:=N) (i:=i);have hroom:=room (n:=(rdn N i).length+1) (b:=8) (by omega) (by omega)
  cases hc:cm N i with
  |true=>
   have e6:lf0 N i=((pn N i).length:Int):=(by unfold lf0;rw[AF hc]);have hl2:i<(lfn N (i+1)).length:=(by rw[lfn_len];exact hi);have e7:(lfn N (i+1))[i]?.getD 0=((pn N i).length:Int):=(by rw[lfn_at hi,AF (by omega),e6]);simp only[A5,lfn_set hi e6.symm,dlt hl2,e7];by_cases h0:(pn N i).length=0
   ·have g:(((pn N i).length:Int)==0)=true:=Av.2 (by omega);simp only[g,A5,eqN_of rfl,hroom,AG,rdn_yes (show lf0 N i=0 by omega),AL,Bi]
   ·have g:(((pn N i).length:Int)==0)=false:=Ae.2 (by omega);simp only[g,A7,rdn_no (show lf0 N i≠0 by omega)]
  |false=>
   have e6:lf0 N i=0:=(by unfold lf0;rw[hc];rfl);have e7:(lfn N i)[i]?.getD 0=0:=(by rw[lfn_at hi,AP (by omega)]);simp only[A7,e7,Ca,A5,eqN_of rfl,hroom,AG,rdn_yes e6,lfn_keep hi e6,AL,Bi]) (by
  have e1:=inlt (a:=(N.length:Int)) (b:=(N.length:Int)) (by omega);unfold M71.s0;simp only[e1,A7])
 have e0:lfn N 0=List.replicate N.length 0:=C1 (by simp[lfn]) λk h1 h2=>by simp[lfn]
 rw[e0]at key;exact key
theorem ko0:KO N [] (List.replicate N.length 0) (lfn N N.length) (rdn N N.length) where
 ki:={
   lf:=lfn_len
   rn:=List.Pairwise.filter _ nums_nodup
   rr:=λa ha=>nums_mem.1 (CT.1 ha).1
   cnt:=λi hi=>by
     rw[lfn_at hi,AF hi];unfold lf0;split
     · simp
     · rfl
   rd:=λi hi=>by
     rw[lfn_at hi,AF hi];unfold rdn;rw[CT,nums_mem,AC,Av];exact⟨λh=>h.2,λh=>⟨⟨by omega,by omega⟩,h⟩⟩ }
 ll:=by simp
 up:=λi hi hc a ha h=>by cases h
 b0:=λi hi=>by simp[hi]
 pre:=⟨_,rfl⟩
theorem KO.all{lev lft rdy:List Int}(h:KO N rdy lev lft rdy)(ht:Topo N):∀i,i<N.length->(i:Int)∈rdy:=by
 intro i
 induction i using Nat.strongRecOn with
 |_ i ih=>
  intro hi;rw[h.ki.rd i hi,h.ki.cnt i hi];by_cases hc:cm N i=true
  ·rw[AF hc];have:(pn N i).countP (λx=>decide (x∈rdy))=(pn N i).length:=List.countP_eq_length.2 λa ha=>(by obtain⟨h1,h2⟩:=ht i hi hc a ha;have:=ih a.toNat (by omega) (by omega);rw[By h1]at this;simpa using this);rw[this];simp
  ·rw[AP hc]
structure Lv(N:NodeL)(lev:List Int):Prop where
 ll:lev.length=N.length
 up:∀i,i<N.length->cm N i=true->∀a∈pn N i,lev[a.toNat]?.getD 0+1<=lev[i]?.getD 0
theorem m71(h:Ck N A C)(ht:Topo N):∃lev,M71.m ⟨N,A,[],C⟩=some (lev,0)/\Lv N lev:=by
 have hN:=h.few;have few:∀i,(pn N i).length<=1000000:=λi=>by
  unfold pn;by_cases hi:i<N.length
  ·rw[A4 hi];exact(h.nd _ (AH hi)).few
  ·rw[Ab (by omega)];exact B0 _
 have fw:∀y∈N,y.2.1.length<=100:=λy hy=>by
  have h1:=(h.nd y hy).f1;have:(fan y.1).2<=16:=by have k0:=(h.nd y hy).k0;have k1:=(h.nd y hy).k1;have e:y.1=0\/y.1=1\/y.1=2\/y.1=3\/y.1=4\/y.1=5\/y.1=6\/y.1=7\/y.1=8\/y.1=9\/y.1=10\/y.1=11\/y.1=12\/y.1=13\/y.1=14:=(by omega);rcases e with e|e|e|e|e|e|e|e|e|e|e|e|e|e|e<;>(rw[e];decide)
  omega
 have h106:M106.m ⟨N,A,[],C⟩=some ((List.range N.length).map λn=>readers n N 0):=by unfold M106.m;exact AF ⟨by show N.length<=100;omega,fw⟩
 have hfe:∀a,a<N.length->Edges N (a:Int) (((List.range N.length).map λn=>readers n N 0)[a]?.getD []):=λa ha=>by simp only[BK,List.getElem?_range ha,AD,BC];exact edges
 have hrl:∀(a:Nat) (r:NodeL) (i:Nat),(∀y∈r,y.2.1.length<=100)->(readers a r i).length<=r.length*100:=by
  intro a r
  induction r with
  |nil=>intro i _;exact A6 _
  |cons x r ih=>intro i hr;unfold readers;rw[AL,(pinsOf_ok a i x.2.1 0).2,As];have h1:=ih (i+1) λy hy=>hr y (CE _ hy);have h2:=hr x (Bk ..);have h3:=List.count_le_length (a:=(a:Int)) (l:=x.2.1);omega
 have hfl:∀a,a<N.length->(((List.range N.length).map λn=>readers n N 0)[a]?.getD []).length<=1000000:=λa ha=>by simp only[BK,List.getElem?_range ha,AD,BC];have:=hrl a N 0 fw;omega
 obtain⟨lev,lft,rdy,h1,h2⟩:=m71_1 (N:=N) (A:=A) (C:=C) (by omega) few (fan:=(List.range N.length).map λn=>readers n N 0) (by simp) hfe hfl ko0;have h0:=m71_0 (N:=N) (A:=A) (C:=C) (lev:=List.replicate N.length 0) hN;have h3:rdy.length=N.length:=by rw[(nodup_full h2.ki.rn h2.ki.rr (h2.all ht)).length_eq,nums_len]
 refine⟨lev,?_,h2.ll,λi hi hc a ha=>h2.up i hi hc a ha (by
  obtain⟨q1,q2⟩:=ht i hi hc a ha;have:=h2.all ht a.toNat (by omega);rwa [By q1]at this)⟩
 unfold M71.m;have c1:decide (0<=(N.length:Int))=true:=AB (by omega);have c2:decide ((N.length:Int)<=(N.length:Int))=true:=AB (by omega);have c3:decide ((N.length:Int)*8<=281474976710656)=true:=AB (by omega);have c4:decide ((N.length:Int)<=9223372036854775807)=true:=AB (by omega);have c5:decide ((N.length:Int)<(N.length:Int))=false:=AN (by omega);have h1':iter M71.s1 { out_lo:=0,out_len:=N.length,out_cap:=N.length,left_lo:=0,left_len:=N.length,left_cap:=N.length,ready_lo:=0,ready_len:=(rdn N N.length).length,fan:=(List.range N.length).map λn=>readers n N 0,done:=0,nodes:=N,names:=A,mems:=[],outs:=C,lev:=List.replicate N.length 0,lft:=lfn N N.length,rdy:=rdn N N.length }=_:=h1;simp only[m113 h,bindO,BU,A7,c1,c2,c3,c4,AG,A5,AC,h0,h106,h1',h3,c5]
end
end Co
end
section
open Go.Abs
namespace Co
def ky(lv:List Int)(a:Int):Int:=lv[a.toNat]?.getD 0
theorem m73{lv:List Int}{a b:Int}(ha:In lv.length a)(hb:In lv.length b):∃c,M73.m ⟨a,b,lv⟩=some (c,lv)/\(c<0↔ky lv a<ky lv b):=by
 unfold M73.m M74.m;have e:∀x:Int,M115.m ⟨x⟩=some false:=λx=>by unfold M115.m;simp
 simp only[inR_int ha,inR_int hb,A5,e,bindO,A7];by_cases h:ky lv a<ky lv b
 ·have e1:decide (lv[a.toNat]?.getD 0<lv[b.toNat]?.getD 0)=true:=AB h;simp only[e1,A5];exact⟨-1,rfl,λ_=>h,λ_=>by omega⟩
 ·have e1:decide (lv[a.toNat]?.getD 0<lv[b.toNat]?.getD 0)=false:=AN h;simp only[e1,A7]
  cases decide (lv[a.toNat]?.getD 0>lv[b.toNat]?.getD 0) with
  |true=>exact⟨1,rfl,λh'=>absurd h' (by omega),λh'=>absurd h' h⟩
  |false=>exact⟨0,rfl,λh'=>absurd h' (by omega),λh'=>absurd h' h⟩
structure Re(lv ys xs:List Int):Prop where
 p:xs.Perm ys
 r:∀a∈ys,In lv.length a
theorem Re.at{lv ys xs:List Int}(h:Re lv ys xs){i:Nat}(hi:i<xs.length):In lv.length xs[i]:=h.r _ (h.p.mem_iff.1 (AH hi))
theorem swap_perm{xs:List Int}{j:Nat}(hj:j<xs.length)(h0:0<j):((xs.set j xs[j - 1]).set (j - 1) xs[j]).Perm xs:=by
 refine List.perm_iff_count.2 λv=> ?_;have hs:j - 1<(xs.set j xs[j - 1]).length:=by rw[BY];omega
 have hne:¬j=j - 1:=by omega
 rw[List.count_set hs,List.count_set hj,C0,AP hne];have h1:(xs[j]==v)=true->0<xs.count v:=λe=>List.count_pos_iff.2 (Av.1 e▸AH hj);have h2:(xs[j - 1]==v)=true->0<xs.count v:=λe=>List.count_pos_iff.2 (Av.1 e▸AH (by omega));cases e1:(xs[j]==v)<;>cases e2:(xs[j - 1]==v)<;>simp only[AM,Af,Ag]<;>first|omega|(have:=h1 e1;omega)|(have:=h2 e2;omega)
def Sj(lv xs:List Int)(i j:Nat):Prop:=∀p q (hp:p<q) (hq:q<xs.length),q<=i->q≠j->ky lv (xs[p]'(by omega))<=ky lv xs[q]
def So(lv xs:List Int)(i:Nat):Prop:=∀p q (hp:p<q) (hq:q<xs.length),q<=i->ky lv (xs[p]'(by omega))<=ky lv xs[q]
abbrev T1(n:Nat)(b:Int)(i j:Nat)(xs lv:List Int):M146.p1X:=⟨0,n,n,0,b,(i:Int),(j:Int),xs,lv⟩
theorem Sj.swap{lv xs:List Int}{i j:Nat}(h:Sj lv xs i j)(hji:j<=i)(hj:j<xs.length)(h0:0<j)(hlt:ky lv xs[j]<ky lv xs[j - 1]):Sj lv ((xs.set j xs[j - 1]).set (j - 1) xs[j]) i (j - 1):=by
 intro p q hp hq hqi hqj;have hq':q<xs.length:=by simpa using hq
 have g:∀k (hk:k<xs.length),((xs.set j xs[j - 1]).set (j - 1) xs[j])[k]'(by simpa using hk)=if k=j - 1 then xs[j] else if k=j then xs[j - 1] else xs[k]:=λk hk=>by
  rw[C0];by_cases e:j - 1=k
  ·rw[AF e,AF e.symm]
  ·rw[AP e,AP (λh=>e h.symm),C0];by_cases e2:j=k
   ·rw[AF e2,AF e2.symm]
   ·rw[AP e2,AP (λh=>e2 h.symm)]
 rw[g p (by omega),g q hq',AP hqj];by_cases e1:q=j
 ·subst e1;rw[AF rfl];by_cases e2:p=q - 1
  ·rw[AF e2];omega
  ·rw[AP e2,AP (by omega)];exact h p (q - 1) (by omega) (by omega) (by omega) (by omega)
 ·rw[AP e1];split
  ·exact h j q (by omega) hq' hqi e1
  ·split
   ·exact h (j - 1) q (by omega) hq' hqi e1
   ·exact h p q hp hq' hqi e1
theorem m146_1{n i:Nat}{b:Int}{lv ys xs:List Int}(hn:n<=1000000)(hi:i<n)(hl:xs.length=n)(hr:Re lv ys xs)(hs:So lv xs (i - 1)):
  ∃xs',iter M146.s1 (T1 n b i i xs lv)=some ⟨0,n,n,0,b,(i:Int),xs',lv⟩/\xs'.length=n/\Re lv ys xs'/\So lv xs' i:=by
 obtain⟨y,h1,xs',h2,h3⟩:=iter_inv (step:=M146.s1) (λx=>∃j xs,x=T1 n b i j xs lv/\j<=i/\xs.length=n/\Re lv ys xs/\Sj lv xs i j) (λx=>x.j.toNat)
  (λy=>∃xs',y=(⟨0,n,n,0,b,(i:Int),xs',lv⟩:M146.q1X)/\xs'.length=n/\Re lv ys xs'/\So lv xs' i) (by
   rintro x ⟨j,xs,rfl,hj,hl,hr,hs⟩;have fin:(j=0\/∃h0:0<j,¬ky lv (xs[j]'(by omega))<ky lv (xs[j - 1]'(by omega)))->So lv xs i:=λhf p q hp hq hqi=>by
    by_cases e:q=j
    ·subst e;rcases hf with hf|⟨h0,hf⟩
     ·omega
     ·by_cases e2:p=q - 1
      ·subst e2;omega
      ·have:=hs p (q - 1) (by omega) (by omega) (by omega) (by omega);omega
    ·exact hs p q hp hq hqi e
   unfold M146.s1;by_cases h0:0<j
   ·have c1:decide ((j:Int)>0)=true:=AB (by omega);have hjn:j<xs.length:=(by omega);have hjn':j - 1<xs.length:=(by omega);have w1:IntKind.i64.wrap ((j:Int) - 1)=((j - 1:Nat):Int):=(by rw[w64 (by omega) (by omega)];omega);have g1:inR (j:Int) n=true:=inR_nat (by omega);have g2:inR ((j - 1:Nat):Int) n=true:=inR_nat (by omega);have gs:j - 1<(xs.set j xs[j - 1]).length:=(by simp;omega);obtain⟨c,k1,k2⟩:=m73 (lv:=lv) (hr.at hjn) (hr.at hjn');simp only[c1,Bool.not_true,Bool.or_false,g1,AI,AC,dlt hjn,w1,g2,dlt hjn',A5,hjn,hjn',A4,BC,k1,bindO];by_cases hlt:ky lv xs[j]<ky lv xs[j - 1]
    ·simp only[AB (k2.2 hlt),A5,dlt gs];exact⟨_,rfl,⟨j - 1,_,rfl,by omega,by simpa using hl,⟨(swap_perm hjn h0).trans hr.p,hr.r⟩,hs.swap hj hjn h0 hlt⟩,by simp;omega⟩
    ·have:¬c<0:=λh=>hlt (k2.1 h);simp only[AN this,A7];exact⟨_,rfl,xs,rfl,hl,hr,fin (.inr ⟨h0,hlt⟩)⟩
   ·have hj0:j=0:=(by omega);subst hj0;have c1:decide (((0:Nat):Int)>0)=false:=rfl;simp only[c1,BX,CP,A5,A7,bindO];exact⟨_,rfl,xs,rfl,hl,hr,fin (.inl rfl)⟩) (T1 n b i i xs lv) ⟨i,xs,rfl,A6 _,hl,hr,λp q hp hq hqi hqj=>hs p q hp hq (by omega)⟩
 exact⟨xs',by rw[h1,h2],h3⟩
theorem m146{n b:Nat}{lv ys xs:List Int}(hn:n<=1000000)(hb:b<=n)(hl:xs.length=n)(hr:Re lv ys xs):
  ∃xs',M146.m ⟨0,n,n,0,(b:Int),xs,lv⟩=some (xs',lv)/\xs'.length=n/\Re lv ys xs'/\So lv xs' (b - 1):=by
 obtain⟨y,h1,xs',h2,h3,h4,h5⟩:=iter_inv (step:=M146.s0) (λx=>∃(i:Nat) (xs:List Int),x=(⟨0,n,n,0,(b:Int),(i:Int),xs,lv⟩:M146.p0X)/\1<=i/\(i<=b\/i=1)/\xs.length=n/\Re lv ys xs/\So lv xs (i - 1)) (λx=>b - x.i.toNat)
  (λy=>∃xs',y=(⟨xs',lv⟩:M146.q0X)/\xs'.length=n/\Re lv ys xs'/\So lv xs' (b - 1)) (by
   rintro x ⟨i,xs,rfl,hi1,hib,hl,hr,hs⟩;unfold M146.s0;by_cases hlt:i<b
   ·have c1:=ilt (a:=(i:Int)) (b:=(b:Int)) (by omega);obtain⟨xs',k1,k2,k3,k4⟩:=m146_1 (b:=(b:Int)) hn (show i<n by omega) hl hr hs;have k1':iter M146.s1 { data_lo:=0,data_len:=n,data_cap:=n,a:=0,b:=(b:Int),i:=(i:Int),j:=(i:Int),xs:=xs,lv:=lv }=_:=k1;simp only[c1,A5,k1',bindO,suc (i:=i) (by omega)];exact⟨_,rfl,⟨i+1,xs',rfl,by omega,.inl hlt,k2,k3,k4⟩,by simp;omega⟩
   ·have c1:=inlt (a:=(i:Int)) (b:=(b:Int)) (by omega);simp only[c1,A7];refine⟨_,rfl,xs,rfl,hl,hr,?_⟩;intro p q hp hq hqi;exact hs p q hp hq (by omega)) ⟨0,n,n,0,(b:Int),((1:Nat):Int),xs,lv⟩ ⟨1,xs,rfl,A6 _,.inr rfl,hl,hr,λp q hp hq hqi=>by omega⟩
 have w:IntKind.i64.wrap (0+1)=((1:Nat):Int):=by rw[w64 (by omega) (by omega)];rfl
 have h1':iter M146.s0 { data_lo:=0,data_len:=n,data_cap:=n,a:=0,b:=(b:Int),i:=((1:Nat):Int),xs:=xs,lv:=lv }=some y:=h1;refine⟨xs',?_,h3,h4,h5⟩;unfold M146.m;simp only[w,h1',bindO,h2]
theorem m72{n:Nat}{lv ys xs:List Int}(hn:n<=19)(hl:xs.length=n)(hr:Re lv ys xs):
  ∃xs',M72.m ⟨0,n,n,xs,lv⟩=some (xs',lv)/\xs'.length=n/\Re lv ys xs'/\So lv xs' (n - 1):=by
 obtain⟨xs',h1,h2⟩:=m146 (by omega) (A6 n) hl hr;refine⟨xs',?_,h2⟩;unfold M72.m M114.m;have e0:iter M114.s0 { data_lo:=0,data_len:=n,data_cap:=n,n:=(n:Int),bs:=20,a:=0,b:=20,xs:=xs,lv:=lv }=some ⟨0,n,n,(n:Int),20,0,xs,lv⟩:=by rw[iter_eq];unfold M114.s0;have c1:decide ((20:Int)<=(n:Int))=false:=AN (by omega);simp only[c1,A7]
 have e1:iter M114.s1 { data_lo:=0,data_len:=n,data_cap:=n,n:=(n:Int),bs:=20,xs:=xs',lv:=lv }=some ⟨xs',lv⟩:=by rw[iter_eq];unfold M114.s1;have c1:decide ((20:Int)<(n:Int))=false:=AN (by omega);simp only[c1,A7]
 simp only[e0,bindO,h1,e1]
structure Ord(N:NodeL)(o:List Int):Prop where
 p:o.Perm (nums N.length)
 b:∀l1 i l2,o=l1++i::l2->cm N i.toNat=true->∀a∈pn N i.toNat,a∈l1
theorem So.ord{N:NodeL}{lv o:List Int}(hv:Lv N lv)(ht:Topo N)(hp:o.Perm (nums N.length))(hs:So lv o (N.length - 1)):Ord N o where
 p:=hp
 b:=λl1 i l2 he hc a ha=>by
  have hi:In N.length i:=nums_mem.1 (hp.mem_iff.1 (by rw[he];simp));obtain⟨i0,i1⟩:=hi;have hin:i.toNat<N.length:=(by omega);obtain⟨a0,a1⟩:=ht _ hin hc a ha;have hao:a∈o:=hp.mem_iff.2 (nums_mem.2 ⟨a0,by omega⟩);have hup:=hv.up _ hin hc a ha;have hlen:o.length=N.length:=(by rw[hp.length_eq,nums_len]);rw[he]at hao;rcases Ad.1 hao with h|h
  ·exact h
  ·exfalso;have hle:ky lv i<=ky lv a:=by
    obtain⟨q,hq,e⟩:=Bg h;have e1:o[l1.length]? =some i:=(by rw[he];simp);have e2:o[l1.length+q]? =some a:=(by rw[he,AS (by omega),show l1.length+q - l1.length=q by omega,A4 hq,e]);obtain⟨b1,f1⟩:=AE.1 e1;obtain⟨b2,f2⟩:=AE.1 e2
    cases q with
    |zero=>rw[BZ,e1]at e2;injection e2 with e2;rw[e2];exact CY _
    |succ q=>have:=hs l1.length (l1.length+(q+1)) (by omega) b2 (by omega);rwa [f1,f2]at this
   unfold ky at hle;omega
section
variable {N:NodeL}{A:List (List UInt8)}{C:List Int}
def numi(n i:Nat):List Int:=(List.range n).map λk=>if k<i then (k:Int) else 0
theorem m40(h:Ck N A C)(ht:Topo N):∃o,M40.m ⟨N,A,[],C⟩=some (o,0)/\Ord N o:=by
 have hN:=h.few;obtain⟨lv,h1,hv⟩:=m71 h ht;have e0:numi N.length 0=List.replicate N.length 0:=C1 (by simp[numi]) λk h1 h2=>by simp[numi]
 have e1:numi N.length N.length=nums N.length:=by unfold numi nums;refine Am λk hk=> ?_;have:=Bv.1 hk;simp[this]
 have hset:∀i,i<N.length->(numi N.length i).set i (i:Int)=numi N.length (i+1):=λi hi=>by
  refine C1 (by simp[numi]) λk h1 h2=> ?_;rw[C0];simp only[numi,AX,List.getElem_range];by_cases e:i=k
  ·subst e;simp
  ·rw[AP e];by_cases e2:k<i
   ·rw[AF e2,AF (by omega)]
   ·rw[AP e2,AP (by omega)]
 have k0:=iter_count (step:=M40.s0) (λi=>⟨0,N.length,N.length,(N.length:Int),(i:Int),N,A,[],C,lv,numi N.length i⟩) (y:=⟨0,N.length,N.length,N,A,[],C,lv,numi N.length N.length⟩) N.length (λi hi=>by
  have c1:=ilt (a:=(i:Int)) (b:=(N.length:Int)) (by omega);have hl:i<(numi N.length i).length:=(by simpa [numi] using hi);unfold M40.s0;simp only[c1,inR_nat hi,A5,AC,AI,dlt hl,suc (i:=i) (by omega),hset i hi]) (by
  have c1:=inlt (a:=(N.length:Int)) (b:=(N.length:Int)) (by omega);unfold M40.s0;simp only[c1,A7])
 rw[e0,e1]at k0;obtain⟨o,h2,h3,h4,h5⟩:=m72 (lv:=lv) (ys:=nums N.length) hN nums_len ⟨List.Perm.refl _,λa ha=>by rw[hv.ll];exact nums_mem.1 ha⟩;refine⟨o,?_,h5.ord hv ht h4.p⟩;unfold M40.m;have c1:decide (0<=(N.length:Int))=true:=AB (by omega);have c2:decide ((N.length:Int)<=(N.length:Int))=true:=AB (by omega);have c3:decide ((N.length:Int)*8<=281474976710656)=true:=AB (by omega);have c4:decide ((N.length:Int)<=9223372036854775807)=true:=AB (by omega);have k0':iter M40.s0 { out_lo:=0,out_len:=N.length,out_cap:=N.length,n:=(N.length:Int),i:=0,nodes:=N,names:=A,mems:=[],outs:=C,lv:=lv,xs:=List.replicate N.length 0 }=_:=k0;simp only[h1,bindO,BU,A7,c1,c2,c3,c4,AG,A5,AC,k0',h2,AI,leB_of (Nat.le_of_eq h3.symm),AU];rw[AJ (by omega)]
end
end Co
end
section
open Go.Abs
def c44:Con:=Ux M44.g M44.f M44.m default
theorem c44_ok:QC Tryz.prog 44 c44:=conFR_ok M44.known (λ_=>rfl) (λ_=>rfl)
namespace M15
structure gX where(nodes:List ((Int)×(List (Int))×(Int)×Int))(names:List (List UInt8))(mems:List ((List (Int))×(List (Int))×Int))(outs inn state:List (Int))
def g:Sg gX:=⟨[.agg [.arr (.pair (.int .u8) (.pair (.sl (.int .i64)) (.pair (.int .i64) (.int .i64)))),.arr .str,.arr (.pair (.sl (.int .i64)) (.pair (.sl (.int .i64)) (.int .i64))),.arr (.int .i64)],.agg [.arr (.int .u8),.arr (.int .u8)]],[],λa b=>⟨a.1.1,a.1.2.1,a.1.2.2.1,a.1.2.2.2.1,a.2.1.1,a.2.1.2.1⟩,λx=>((x.nodes,(x.names,(x.mems,(x.outs,())))),((x.inn,(x.state,())),())),λx=>()⟩
abbrev fY:=List (Int)×List (Int)×List (Int)×Int
def f:Ft fY:=⟨none,.tup [.inr [.arr (.int .u8),.arr (.int .u8)],.inl (.arr (.int .u8)),.inl (.it .i64)],[],λa b=>(a.1.1,a.1.2.1,a.2.1,a.2.2.1),λy=>((y.1,(y.2.1,())),(y.2.2.1,(y.2.2.2,()))),λy=>()⟩
def cl:List (FuncId×Con):=[(40,M40.con),(41,M41.con),(42,M42.con),(43,M43.con),(44,c44),(45,M45.con)]
theorem cl_ok:Q8 Tryz.prog cl:=⟨M40.con_ok,M41.con_ok,M42.con_ok,M43.con_ok,c44_ok,M45.con_ok,trivial⟩
def E2:Env:=⟨ty,QE cl,λ_=>none,none⟩
structure p1X where(inb_lo inb_len inb_cap:Nat)(ord:List (Int))(n i k:Int)(l:List (Int))(m j:Int)(nodes:List ((Int)×(List (Int))×(Int)×Int))(names:List (List UInt8))(mems:List ((List (Int))×(List (Int))×Int))(outs inn state nets:List (Int))(nodes2:List ((Int)×(List (Int))×(Int)×Int))(names2:List (List UInt8))(mems2:List ((List (Int))×(List (Int))×Int))(outs2:List (Int))(nets_lo nets_len nets_cap:Nat)(buf:List (Int))(kind:Int)(inn2:List (Int))(mem bit:Int)
def p1:Pt p1X where
 own:=[]
 t:=⟨[(4,.c (.ptr 2 0)),(9,.c (.ptr 4 0)),(10,.c (.slc 5 0 1)),(40,.c (.arr (.int .i64))),(41,.c (.it .i64)),(42,.c (.it .i64)),(12,.c (.it .i64)),(13,.c (.ptr 6 0)),(59,.c (.arr (.int .i64))),(60,.c (.it .i64)),(61,.c (.it .i64))],[.st [.arr (.pair (.int .u8) (.pair (.sl (.int .i64)) (.pair (.int .i64) (.int .i64)))),.arr .str,.arr (.pair (.sl (.int .i64)) (.pair (.sl (.int .i64)) (.int .i64))),.arr (.int .i64)] 1 0,.st [.arr (.int .u8),.arr (.int .u8)] 1 0,.st [.junk,.junk] 1 0,.arr (.int .u8) 0,.st [.arr (.pair (.int .u8) (.pair (.sl (.int .i64)) (.pair (.int .i64) (.int .i64)))),.arr .str,.arr (.pair (.sl (.int .i64)) (.pair (.sl (.int .i64)) (.int .i64))),.arr (.int .i64),.slc 3 0 1] 1 0,.arr (.int .u8) 0,.st [.it .u8,.arr (.int .i64),.it .i64,.it .i64] 1 0]⟩
 to:=λv=>⟨v.1.2.2.1.1,v.1.2.2.1.2.1,v.1.2.2.1.2.2,v.1.2.2.2.1,v.1.2.2.2.2.1,v.1.2.2.2.2.2.1,v.1.2.2.2.2.2.2.1,v.1.2.2.2.2.2.2.2.2.1,v.1.2.2.2.2.2.2.2.2.2.1,v.1.2.2.2.2.2.2.2.2.2.2.1,v.2.1.1,v.2.1.2.1,v.2.1.2.2.1,v.2.1.2.2.2.1,v.2.2.1.1,v.2.2.1.2.1,v.2.2.2.2.1,v.2.2.2.2.2.1.1,v.2.2.2.2.2.1.2.1,v.2.2.2.2.2.1.2.2.1,v.2.2.2.2.2.1.2.2.2.1,v.2.2.2.2.2.1.2.2.2.2.1.1,v.2.2.2.2.2.1.2.2.2.2.1.2.1,v.2.2.2.2.2.1.2.2.2.2.1.2.2,v.2.2.2.2.2.2.1,v.2.2.2.2.2.2.2.1.1,v.2.2.2.2.2.2.2.1.2.1,v.2.2.2.2.2.2.2.1.2.2.1,v.2.2.2.2.2.2.2.1.2.2.2.1⟩
 fr:=λx=>(((),((),((x.inb_lo,x.inb_len,x.inb_cap),(x.ord,(x.n,(x.i,(x.k,((),(x.l,(x.m,(x.j,()))))))))))),((x.nodes,(x.names,(x.mems,(x.outs,())))),((x.inn,(x.state,())),(((),((),())),(x.nets,((x.nodes2,(x.names2,(x.mems2,(x.outs2,((x.nets_lo,x.nets_len,x.nets_cap),()))))),(x.buf,((x.kind,(x.inn2,(x.mem,(x.bit,())))),()))))))))
structure q1X where(inb_lo inb_len inb_cap:Nat)(ord:List (Int))(n i k:Int)(nodes:List ((Int)×(List (Int))×(Int)×Int))(names:List (List UInt8))(mems:List ((List (Int))×(List (Int))×Int))(outs inn state nets:List (Int))(nodes2:List ((Int)×(List (Int))×(Int)×Int))(names2:List (List UInt8))(mems2:List ((List (Int))×(List (Int))×Int))(outs2:List (Int))(nets_lo nets_len nets_cap:Nat)(buf:List (Int))(kind:Int)(inn2:List (Int))(mem bit:Int)
def q1:Pt q1X where
 own:=[]
 t:=⟨[(4,.c (.ptr 2 0)),(9,.c (.ptr 4 0)),(10,.c (.slc 5 0 1)),(40,.c (.arr (.int .i64))),(41,.c (.it .i64)),(42,.c (.it .i64)),(12,.c (.it .i64)),(13,.c (.ptr 6 0))],[.st [.arr (.pair (.int .u8) (.pair (.sl (.int .i64)) (.pair (.int .i64) (.int .i64)))),.arr .str,.arr (.pair (.sl (.int .i64)) (.pair (.sl (.int .i64)) (.int .i64))),.arr (.int .i64)] 1 0,.st [.arr (.int .u8),.arr (.int .u8)] 1 0,.st [.junk,.junk] 1 0,.arr (.int .u8) 0,.st [.arr (.pair (.int .u8) (.pair (.sl (.int .i64)) (.pair (.int .i64) (.int .i64)))),.arr .str,.arr (.pair (.sl (.int .i64)) (.pair (.sl (.int .i64)) (.int .i64))),.arr (.int .i64),.slc 3 0 1] 1 0,.arr (.int .u8) 0,.st [.it .u8,.arr (.int .i64),.it .i64,.it .i64] 1 0]⟩
 to:=λv=>⟨v.1.2.2.1.1,v.1.2.2.1.2.1,v.1.2.2.1.2.2,v.1.2.2.2.1,v.1.2.2.2.2.1,v.1.2.2.2.2.2.1,v.1.2.2.2.2.2.2.1,v.2.1.1,v.2.1.2.1,v.2.1.2.2.1,v.2.1.2.2.2.1,v.2.2.1.1,v.2.2.1.2.1,v.2.2.2.2.1,v.2.2.2.2.2.1.1,v.2.2.2.2.2.1.2.1,v.2.2.2.2.2.1.2.2.1,v.2.2.2.2.2.1.2.2.2.1,v.2.2.2.2.2.1.2.2.2.2.1.1,v.2.2.2.2.2.1.2.2.2.2.1.2.1,v.2.2.2.2.2.1.2.2.2.2.1.2.2,v.2.2.2.2.2.2.1,v.2.2.2.2.2.2.2.1.1,v.2.2.2.2.2.2.2.1.2.1,v.2.2.2.2.2.2.2.1.2.2.1,v.2.2.2.2.2.2.2.1.2.2.2.1⟩
 fr:=λx=>(((),((),((x.inb_lo,x.inb_len,x.inb_cap),(x.ord,(x.n,(x.i,(x.k,((),())))))))),((x.nodes,(x.names,(x.mems,(x.outs,())))),((x.inn,(x.state,())),(((),((),())),(x.nets,((x.nodes2,(x.names2,(x.mems2,(x.outs2,((x.nets_lo,x.nets_len,x.nets_cap),()))))),(x.buf,((x.kind,(x.inn2,(x.mem,(x.bit,())))),()))))))))
def s1(x:p1X):Option (p1X⊕q1X):=bif decide (x.j<x.m) then bif inR x.j x.l.length then bif inR (x.l[x.j.toNat]?.getD 0) x.nets_len then bif decide (x.nets_lo+Int.toNat (x.l[x.j.toNat]?.getD 0)<x.nets.length) then bif leB (x.inb_len+1) x.inb_cap&&leB (x.inb_lo+x.inb_cap) x.buf.length then some (Sum.inl ⟨x.inb_lo,x.inb_len+1,x.inb_cap,x.ord,x.n,x.i,x.k,x.l,x.m,IntKind.i64.wrap (x.j+1),x.nodes,x.names,x.mems,x.outs,x.inn,x.state,x.nets,x.nodes2,x.names2,x.mems2,x.outs2,x.nets_lo,x.nets_len,x.nets_cap,List.take (x.inb_lo+x.inb_len) x.buf++[x.nets[x.nets_lo+Int.toNat (x.l[x.j.toNat]?.getD 0)]?.getD 0]++List.drop (x.inb_lo+x.inb_len+1) x.buf,x.kind,x.inn2,x.mem,x.bit⟩) else none else none else none else none else some (Sum.inr ⟨x.inb_lo,x.inb_len,x.inb_cap,x.ord,x.n,x.i,x.k,x.nodes,x.names,x.mems,x.outs,x.inn,x.state,x.nets,x.nodes2,x.names2,x.mems2,x.outs2,x.nets_lo,x.nets_len,x.nets_cap,x.buf,x.kind,x.inn2,x.mem,x.bit⟩)
theorem s1_eq(x:p1X):exec E2 87 (C15.Q0 1) 2 (p1.R x) (p1.H x) (QP 0 p1 (.exit 2) q1)=s1 x:=by kernel_rfl
def l1:QJ:=QQ 0 p1 (.exit 2) q1 s1
theorem tl1:QA (C15.Q0 1) 2=[]:=by kernel_rfl
theorem l1_ok  :QF Tryz.prog 87 none 0 (C15.Q0 1) l1:=QG mixed (Q4 ty_ok cl_ok _) (by trivial) (λ_=>rfl) (λ_=>rfl) (tl1▸Q7.nil) s1_eq
def E1:Env:=⟨ty,QE cl,Qi [(1,l1)],none⟩
structure p0X where(inb_lo inb_len inb_cap:Nat)(ord:List (Int))(n i:Int)(nodes:List ((Int)×(List (Int))×(Int)×Int))(names:List (List UInt8))(mems:List ((List (Int))×(List (Int))×Int))(outs inn state nets:List (Int))(nodes2:List ((Int)×(List (Int))×(Int)×Int))(names2:List (List UInt8))(mems2:List ((List (Int))×(List (Int))×Int))(outs2:List (Int))(nets_lo nets_len nets_cap:Nat)(buf:List (Int))
def p0:Pt p0X where
 own:=[]
 t:=⟨[(4,.c (.ptr 2 0)),(9,.c (.ptr 4 0)),(10,.c (.slc 5 0 1)),(40,.c (.arr (.int .i64))),(41,.c (.it .i64)),(42,.c (.it .i64))],[.st [.arr (.pair (.int .u8) (.pair (.sl (.int .i64)) (.pair (.int .i64) (.int .i64)))),.arr .str,.arr (.pair (.sl (.int .i64)) (.pair (.sl (.int .i64)) (.int .i64))),.arr (.int .i64)] 1 0,.st [.arr (.int .u8),.arr (.int .u8)] 1 0,.st [.junk,.junk] 1 0,.arr (.int .u8) 0,.st [.arr (.pair (.int .u8) (.pair (.sl (.int .i64)) (.pair (.int .i64) (.int .i64)))),.arr .str,.arr (.pair (.sl (.int .i64)) (.pair (.sl (.int .i64)) (.int .i64))),.arr (.int .i64),.slc 3 0 1] 1 0,.arr (.int .u8) 0]⟩
 to:=λv=>⟨v.1.2.2.1.1,v.1.2.2.1.2.1,v.1.2.2.1.2.2,v.1.2.2.2.1,v.1.2.2.2.2.1,v.1.2.2.2.2.2.1,v.2.1.1,v.2.1.2.1,v.2.1.2.2.1,v.2.1.2.2.2.1,v.2.2.1.1,v.2.2.1.2.1,v.2.2.2.2.1,v.2.2.2.2.2.1.1,v.2.2.2.2.2.1.2.1,v.2.2.2.2.2.1.2.2.1,v.2.2.2.2.2.1.2.2.2.1,v.2.2.2.2.2.1.2.2.2.2.1.1,v.2.2.2.2.2.1.2.2.2.2.1.2.1,v.2.2.2.2.2.1.2.2.2.2.1.2.2,v.2.2.2.2.2.2.1⟩
 fr:=λx=>(((),((),((x.inb_lo,x.inb_len,x.inb_cap),(x.ord,(x.n,(x.i,())))))),((x.nodes,(x.names,(x.mems,(x.outs,())))),((x.inn,(x.state,())),(((),((),())),(x.nets,((x.nodes2,(x.names2,(x.mems2,(x.outs2,((x.nets_lo,x.nets_len,x.nets_cap),()))))),(x.buf,())))))))
structure q0X where(nets:List (Int))(nodes:List ((Int)×(List (Int))×(Int)×Int))(names:List (List UInt8))(mems:List ((List (Int))×(List (Int))×Int))(outs:List (Int))(nets_lo nets_len nets_cap:Nat)
def q0:Pt q0X where
 own:=[]
 t:=⟨[(4,.c (.ptr 2 0)),(9,.c (.ptr 4 0))],[.st [.junk,.junk,.junk,.junk] 1 0,.st [.junk,.junk] 1 0,.st [.junk,.junk] 1 0,.arr (.int .u8) 0,.st [.arr (.pair (.int .u8) (.pair (.sl (.int .i64)) (.pair (.int .i64) (.int .i64)))),.arr .str,.arr (.pair (.sl (.int .i64)) (.pair (.sl (.int .i64)) (.int .i64))),.arr (.int .i64),.slc 3 0 1] 1 0]⟩
 to:=λv=>⟨v.2.2.2.2.1,v.2.2.2.2.2.1.1,v.2.2.2.2.2.1.2.1,v.2.2.2.2.2.1.2.2.1,v.2.2.2.2.2.1.2.2.2.1,v.2.2.2.2.2.1.2.2.2.2.1.1,v.2.2.2.2.2.1.2.2.2.2.1.2.1,v.2.2.2.2.2.1.2.2.2.2.1.2.2⟩
 fr:=λx=>(((),((),())),(((),((),((),((),())))),(((),((),())),(((),((),())),(x.nets,((x.nodes,(x.names,(x.mems,(x.outs,((x.nets_lo,x.nets_len,x.nets_cap),()))))),()))))))
def s0(x:p0X):Option (p0X⊕q0X):=bif decide (x.i<x.n) then bif inR x.i x.ord.length then bif inR (x.ord[x.i.toNat]?.getD 0) x.nodes2.length then bindO (M43.m ⟨(x.nodes2[Int.toNat (x.ord[x.i.toNat]?.getD 0)]?.getD (0,[],0,0)).1⟩) λy=>bif !y then some (Sum.inl ⟨x.inb_lo,x.inb_len,x.inb_cap,x.ord,x.n,IntKind.i64.wrap (x.i+1),x.nodes,x.names,x.mems,x.outs,x.inn,x.state,x.nets,x.nodes2,x.names2,x.mems2,x.outs2,x.nets_lo,x.nets_len,x.nets_cap,x.buf⟩) else bif decide (0<=(↑x.inb_cap:Int)) then bindO (iter s1 ⟨x.inb_lo,0,x.inb_cap,x.ord,x.n,x.i,x.ord[x.i.toNat]?.getD 0,(x.nodes2[Int.toNat (x.ord[x.i.toNat]?.getD 0)]?.getD (0,[],0,0)).2.1,(↑(List.length (x.nodes2[Int.toNat (x.ord[x.i.toNat]?.getD 0)]?.getD (0,[],0,0)).2.1):Int),0,x.nodes,x.names,x.mems,x.outs,x.inn,x.state,x.nets,x.nodes2,x.names2,x.mems2,x.outs2,x.nets_lo,x.nets_len,x.nets_cap,x.buf,(x.nodes2[Int.toNat (x.ord[x.i.toNat]?.getD 0)]?.getD (0,[],0,0)).1,(x.nodes2[Int.toNat (x.ord[x.i.toNat]?.getD 0)]?.getD (0,[],0,0)).2.1,(x.nodes2[Int.toNat (x.ord[x.i.toNat]?.getD 0)]?.getD (0,[],0,0)).2.2.1,(x.nodes2[Int.toNat (x.ord[x.i.toNat]?.getD 0)]?.getD (0,[],0,0)).2.2.2⟩) λy=>bindO (bif leB (y.inb_lo+y.inb_len) y.buf.length&&true then M44.m ⟨y.kind,List.take y.inb_len (List.drop y.inb_lo y.buf)⟩ else none) λy_1=>bif inR y.k y.nets_len then bif decide (y.nets_lo+y.k.toNat<y.nets.length) then some (Sum.inl ⟨y.inb_lo,y.inb_len,y.inb_cap,y.ord,y.n,IntKind.i64.wrap (y.i+1),y.nodes,y.names,y.mems,y.outs,y.inn,y.state,y.nets.set (y.nets_lo+y.k.toNat) y_1,y.nodes2,y.names2,y.mems2,y.outs2,y.nets_lo,y.nets_len,y.nets_cap,y.buf⟩) else none else none else none else none else none else some (Sum.inr ⟨x.nets,x.nodes2,x.names2,x.mems2,x.outs2,x.nets_lo,x.nets_len,x.nets_cap⟩)
theorem s0_eq(x:p0X):exec E1 87 (C15.Q0 0) 1 (p0.R x) (p0.H x) (QP 0 p0 (.exit 0) q0)=s0 x:=by kernel_rfl
def l0:QJ:=QQ 0 p0 (.exit 0) q0 s0
theorem tl0:QA (C15.Q0 0) 1=[(1,C15.Q0 1)]:=by kernel_rfl
theorem l0_ok  :QF Tryz.prog 87 none 0 (C15.Q0 0) l0:=QG mixed (Q4 ty_ok cl_ok _) (by trivial) (λ_=>rfl) (λ_=>rfl) (tl0▸(Q7.cons rfl l1_ok Q7.nil)) s0_eq
def E0:Env:=⟨ty,QE cl,Qi [(0,l0),(1,l1)],none⟩
def m(x:gX):Option fY:=bindO (M40.m ⟨x.nodes,x.names,x.mems,x.outs⟩) λy=>bif y.2==0 then bindO (M41.m ⟨x.nodes,x.names,x.mems,x.outs,x.inn,x.state⟩) λy_1=>bif y_1 !=0 then some ([],[],[],y_1) else bif decide (0<=(↑x.nodes.length:Int))&&decide ((↑x.nodes.length:Int)<=(↑x.nodes.length:Int))&&decide ((↑x.nodes.length:Int)*(↑1:Int)<=281474976710656)&&decide ((↑x.nodes.length:Int)<=9223372036854775807) then bindO (M42.m ⟨x.nodes,x.names,x.mems,x.outs,0,(↑x.nodes.length:Int).toNat,(↑x.nodes.length:Int).toNat,x.inn,x.state,List.replicate (↑x.nodes.length:Int).toNat (0:Int)⟩) λy_2=>bindO (iter s0 ⟨0,0,16,y.1,(↑y.1.length:Int),0,x.nodes,x.names,x.mems,x.outs,x.inn,x.state,y_2,x.nodes,x.names,x.mems,x.outs,0,(↑x.nodes.length:Int).toNat,(↑x.nodes.length:Int).toNat,List.replicate 16 (0:Int)⟩) λy=>bindO (M45.m ⟨y.nodes,y.names,y.mems,y.outs,y.nets_lo,y.nets_len,y.nets_cap,y.nets⟩) λy_3=>bif leB (y.nets_lo+y.nets_len) y.nets.length&&true&&true&&true then some (y_3.1,y_3.2.1,List.take y.nets_len (List.drop y.nets_lo y.nets),0) else none else none else bif y.2 !=0 then some ([],[],[],y.2) else bif decide (0<=(↑x.nodes.length:Int))&&decide ((↑x.nodes.length:Int)<=(↑x.nodes.length:Int))&&decide ((↑x.nodes.length:Int)*(↑1:Int)<=281474976710656)&&decide ((↑x.nodes.length:Int)<=9223372036854775807) then bindO (M42.m ⟨x.nodes,x.names,x.mems,x.outs,0,(↑x.nodes.length:Int).toNat,(↑x.nodes.length:Int).toNat,x.inn,x.state,List.replicate (↑x.nodes.length:Int).toNat (0:Int)⟩) λy_1=>bindO (iter s0 ⟨0,0,16,y.1,(↑y.1.length:Int),0,x.nodes,x.names,x.mems,x.outs,x.inn,x.state,y_1,x.nodes,x.names,x.mems,x.outs,0,(↑x.nodes.length:Int).toNat,(↑x.nodes.length:Int).toNat,List.replicate 16 (0:Int)⟩) λy=>bindO (M45.m ⟨y.nodes,y.names,y.mems,y.outs,y.nets_lo,y.nets_len,y.nets_cap,y.nets⟩) λy_2=>bif leB (y.nets_lo+y.nets_len) y.nets.length&&true&&true&&true then some (y_2.1,y_2.2.1,List.take y.nets_len (List.drop y.nets_lo y.nets),0) else none else none
theorem m_eq(x:gX):exec E0 87 C15 0 (QD 0 (g.A x)) (g.H x) (finish 0 ty [.cell 4 77,.tmp 5,.tmp 6] f)=m x:=by kernel_rfl
theorem tl:QA C15 0=[(0,C15.Q0 0)]:=by kernel_rfl
theorem known:QB Tryz.prog 15 g f m:=
 Q5 mixed (Q4 ty_ok cl_ok _) s15 rfl rfl tl (Q7.cons rfl l0_ok Q7.nil) (λ_ _=>⟨rfl,rfl⟩) (λ_ _=>⟨rfl,rfl⟩) m_eq
def con:Con:=Qa g f m default
theorem con_ok:QC Tryz.prog 15 con:=Q9 known (λ_=>rfl) rfl
end M15
end
section
open Go.Abs
namespace Co
def ofN(N:NodeL)(k:Int)(i:Nat):List Int:=(nums i).filter λa=>kd N a==k
def ofK(N:NodeL)(k:Int):List Int:=ofN N k N.length
theorem ofN_len{N:NodeL}{k:Int}{i:Nat}:(ofN N k i).length<=i:=by have:=C7 (λa=>kd N a==k) (nums i);rwa [nums_len]at this
theorem ofK_mem{N:NodeL}{k a:Int}:a∈ofK N k↔In N.length a/\kd N a=k:=by unfold ofK ofN;rw[CT,nums_mem,Av]
structure Flt where(rd:Int->Int->Int->Int)(nt:Int->Int->Int)
def good:Flt:=⟨λ_ _ v=>v,λ_ v=>v⟩
def ev(k:Int)(l:List Int):Int:=(M44.m ⟨k,l⟩).getD 2
def rds(F:Flt)(N:NodeL)(nets:List Int)(i:Int):List Int:=(pn N i.toNat).mapIdx λk a=>F.rd i (k:Int) (ky nets a)
def nxt(F:Flt)(N:NodeL)(nets:List Int)(i:Int):List Int:=if cm N i.toNat=true then nets.set i.toNat (ev (kd N i) (rds F N nets i)) else nets
def stp(F:Flt)(N:NodeL)(nets:List Int)(i:Int):List Int:=(nxt F N nets i).set i.toNat (F.nt i (ky (nxt F N nets i) i))
def sim(F:Flt)(N:NodeL)(o b:List Int):List Int:=o.foldl (stp F N) b
def puts(l vals:List Int):Nat->List Int->List Int
 |0,xs=>xs
 |i+1,xs=>(puts l vals i xs).set (l[i]?.getD 0).toNat (vals[i]?.getD 0)
def base(N:NodeL)(inn st:List Int):List Int:=puts (ofK N 14) st (ofK N 14).length (puts (ofK N 0) inn (ofK N 0).length (List.replicate N.length 0))
def rdv(v:Int):Int:=if 2<v then 2 else v
def pin0(N:NodeL)(i:Int):Int:=(pn N i.toNat)[0]?.getD 0
def nexts(F:Flt)(N:NodeL)(nets:List Int):List Int:=(ofK N 14).map λi=>rdv (F.rd i 0 (ky nets (pin0 N i)))
def outsV(C nets:List Int):List Int:=C.map (ky nets)
abbrev AllV(l:List Int):Prop:=∀v∈l,V v
theorem allV_ky{l:List Int}(h:AllV l)(a:Int):V (ky l a):=by
 unfold ky;by_cases ha:a.toNat<l.length
 ·rw[A4 ha];exact h _ (AH ha)
 ·rw[Ab (by omega)];exact⟨by simp,by simp⟩
theorem allV_set{l:List Int}(h:AllV l){i:Nat}{v:Int}(hv:V v):AllV (l.set i v):=λx hx=>by
 rcases List.mem_or_eq_of_mem_set hx with hx|hx
 ·exact h x hx
 ·rw[hx];exact hv
theorem ev_ok{k:Int}{l:List Int}(h0:0<=k)(h1:k<16)(hl:l.length<=1000000)(hv:AllV l):M44.m ⟨k,l⟩=some (ev k l)/\V (ev k l):=by
 obtain⟨v,e1,e2⟩:=m44 k.toNat (by omega) l hl hv;rw[By h0]at e1;have:ev k l=v:=by unfold ev;rw[e1];rfl
 rw[this];exact⟨e1,e2⟩
theorem puts_len{l vals:List Int}:∀{i:Nat} {xs:List Int},(puts l vals i xs).length=xs.length
 |0,_=>rfl
 |i+1,xs=>by unfold puts;rw[BY];exact puts_len
theorem base_len{N:NodeL}{inn st:List Int}:(base N inn st).length=N.length:=by unfold base;rw[puts_len,puts_len,BR]
theorem puts_V{l vals:List Int}(hv:AllV vals):∀{i:Nat} {xs:List Int},AllV xs->AllV (puts l vals i xs)
 |0,_,h=>h
 |i+1,xs,h=>by
  unfold puts;refine allV_set (puts_V hv h) ?_;by_cases hi:i<vals.length
  ·rw[A4 hi];exact hv _ (AH hi)
  ·rw[Ab (by omega)];exact⟨by simp,by simp⟩
theorem base_V{N:NodeL}{inn st:List Int}(hi:AllV inn)(hs:AllV st):AllV (base N inn st):=
 puts_V hs (puts_V hi λv hv=>by rw[(List.mem_replicate.1 hv).2];exact⟨by omega,by omega⟩)
structure Flt.Ok(F:Flt):Prop where
 rd:∀i k v,V v->V (F.rd i k v)
 nt:∀i v,V v->V (F.nt i v)
theorem good_ok:good.Ok:=⟨λ_ _ _ h=>h,λ_ _ h=>h⟩
theorem rds_V{F:Flt}(hF:F.Ok){N:NodeL}{nets:List Int}{i:Int}(h:AllV nets):AllV (rds F N nets i):=λv hv=>by obtain⟨k,hk,e⟩:=List.mem_mapIdx.1 hv;rw[<-e];exact hF.rd _ _ _ (allV_ky h _)
theorem kd_at{N:NodeL}{i:Nat}:kd N (i:Int)=(N[i]?.getD (0,[],0,0)).1:=rfl
section
variable {N:NodeL}{A:List (List UInt8)}{C:List Int}
theorem Ck.node(h:Ck N A C){i:Int}(hi:In N.length i):∃x,x=N[i.toNat]?.getD (0,[],0,0)/\Nd N x:=by
 obtain⟨h0,h1⟩:=hi;have hn:i.toNat<N.length:=by omega
 exact⟨N[i.toNat],by rw[A4 hn];rfl,h.nd _ (AH hn)⟩
theorem Ck.kind(h:Ck N A C){i:Int}(hi:In N.length i):0<=kd N i/\kd N i<15:=by obtain⟨x,e,hx⟩:=h.node hi;unfold kd;rw[<-e];exact⟨hx.k0,hx.k1⟩
theorem fan16{k:Int}(h0:0<=k)(h1:k<15):(fan k).2<=16:=by
 have e:k=0\/k=1\/k=2\/k=3\/k=4\/k=5\/k=6\/k=7\/k=8\/k=9\/k=10\/k=11\/k=12\/k=13\/k=14:=by omega
 rcases e with e|e|e|e|e|e|e|e|e|e|e|e|e|e|e<;>(rw[e];decide)
theorem Ck.pins(h:Ck N A C){i:Int}(hi:In N.length i):(pn N i.toNat).length<=16/\∀a∈pn N i.toNat,In N.length a:=by obtain⟨x,e,hx⟩:=h.node hi;unfold pn;rw[<-e];have:=fan16 hx.k0 hx.k1;have:=hx.f1;exact⟨by omega,hx.pins⟩
theorem Ck.dff(h:Ck N A C){i:Int}(hi:In N.length i)(hk:kd N i=14):(pn N i.toNat).length=1:=by
 obtain⟨x,e,hx⟩:=h.node hi;have e1:x.1=14:=by rw[<-hk];unfold kd;rw[e]
 unfold pn;rw[<-e];have h0:=hx.f0;have h1:=hx.f1;rw[e1]at h0 h1;have h0:(1:Int)<=x.2.1.length:=h0;have h1:(x.2.1.length:Int)<=1:=h1;omega
theorem rds_len{F:Flt}{nets:List Int}{i:Int}:(rds F N nets i).length=(pn N i.toNat).length:=List.length_mapIdx
theorem nxt_len{F:Flt}{nets:List Int}{i:Int}:(nxt F N nets i).length=nets.length:=by unfold nxt;split<;>simp
theorem stp_len{F:Flt}{nets:List Int}{i:Int}:(stp F N nets i).length=nets.length:=by unfold stp;rw[BY,nxt_len]
theorem sim_len{F:Flt}{o:List Int}:∀{b:List Int},(sim F N o b).length=b.length:=by
 induction o with
 |nil=>intro b;rfl
 |cons i o ih=>intro b;show(sim F N o (stp F N b i)).length=_;rw[ih,stp_len]
theorem stp_V(h:Ck N A C){F:Flt}(hF:F.Ok){nets:List Int}(hv:AllV nets){i:Int}(hi:In N.length i):AllV (stp F N nets i):=by
 have h1:AllV (nxt F N nets i):=by
  unfold nxt;split
  ·have hk:=h.kind hi;exact allV_set hv (ev_ok hk.1 (by omega) (by rw[rds_len];have:=(h.pins hi).1;omega) (rds_V hF hv)).2
  ·exact hv
 exact allV_set h1 (hF.nt _ _ (allV_ky h1 _))
theorem sim_V(h:Ck N A C){F:Flt}(hF:F.Ok){o:List Int}:∀{b:List Int},(∀i∈o,In N.length i)->AllV b->AllV (sim F N o b):=by
 induction o with
 |nil=>intro b _ hb;exact hb
 |cons i o ih=>intro b ho hb;exact ih (λj hj=>ho j (CE _ hj)) (stp_V h hF hb (ho i (Bk ..)))
theorem sim_snoc{F:Flt}{o b:List Int}{j:Nat}(hj:j<o.length):sim F N (o.take (j+1)) b=stp F N (sim F N (o.take j) b) o[j]:=by unfold sim;rw[take_succ' hj,List.foldl_append];rfl
theorem m111(k v:Int):M111.m ⟨[k],v⟩=some (v==k):=by
 have c1:decide ((0:Int)<(([k]:List Int).length:Int))=true:=rfl;have c2:inR 0 ([k]:List Int).length=true:=rfl;have c3:([k]:List Int)[(0:Int).toNat]?.getD 0=k:=rfl;unfold M111.m M141.m
 cases hc:(v==k) with
 |true=>have e1:iter M141.s0 { s:=[k],v:=v,n:=(([k]:List Int).length:Int),i:=0 }=some (.inr ⟨0⟩):=(by rw[iter_eq];unfold M141.s0;simp only[c1,c2,c3,A5,hc]);simp only[e1];rfl
 |false=>have e1:iter M141.s0 { s:=[k],v:=v,n:=(([k]:List Int).length:Int),i:=0 }=some (.inl ()):=(by rw[iter_eq];unfold M141.s0;simp only[c1,c2,c3,A5,hc,A7];rw[iter_eq];rfl);simp only[e1];rfl
theorem m34{xs:List Int}(h:xs.length<=1000000):M34o.m ⟨0,xs.length,xs⟩=some (0,xs.length,xs.length,xs):=by unfold M34o.m;have c1:decide (0<=(xs.length:Int))=true:=AB (by omega);have c2:decide ((xs.length:Int)<=(xs.length:Int))=true:=AB (by omega);simp only[c1,c2,AC,AG,A5]
theorem m68(h:Ck N A C)(k:Int):M68.m ⟨N,A,[],C,[k]⟩=some (ofK N k):=by
 have hN:=h.few;have hl:=ofN_len (N:=N) (k:=k) (i:=N.length);have key:=iter_count (step:=M68.s0) (λi=>⟨[k],0,(ofN N k i).length,N,(N.length:Int),(i:Int),N,A,[],C,ofN N k i⟩) (y:=⟨0,(ofN N k N.length).length,N,A,[],C,ofN N k N.length⟩) N.length (λi hi=>by
  have c1:=ilt (a:=(i:Int)) (b:=(N.length:Int)) (by omega);have hl:=ofN_len (N:=N) (k:=k) (i:=i);have hs:ofN N k (i+1)=if kd N (i:Int)==k then ofN N k i++[(i:Int)] else ofN N k i:=by
   unfold ofN;rw[nums_succ,C2]
   cases e:kd N (i:Int)==k with
   |true=>rw[Cg (p:=λa=>kd N a==k) e];rfl
   |false=>rw[Ch (p:=λa=>kd N a==k) (by show¬(kd N (i:Int)==k)=true;rw[e];simp)];simp
  unfold M68.s0;simp only[c1,inR_nat hi,A5,AC,m111,bindO,suc (i:=i) (by omega)];rw[hs];rw[kd_at]
  cases (N[i]?.getD (0,[],0,0)).1==k with
  |true=>simp only[A5,eqN_of rfl,room (n:=(ofN N k i).length+1) (b:=8) (by omega) (by omega),AG,Ag,AL,Bi]
  |false=>simp only[A7];rfl) (by
  have c1:=inlt (a:=(N.length:Int)) (b:=(N.length:Int)) (by omega);unfold M68.s0;simp only[c1,A7])
 have key':iter M68.s0 { kinds:=[k],out_lo:=0,out_len:=0,ns:=N,n:=(N.length:Int),i:=0,nodes:=N,names:=A,mems:=[],outs:=C,xs:=[] }=_:=key;unfold M68.m;simp only[key',bindO,m34 (xs:=ofN N k N.length) (by omega),AI,leB_of (A6 _),AG,A5,AU,Ak];rfl
theorem m36(h:Ck N A C):M36.m ⟨N,A,[],C⟩=some (ofK N 14):=by unfold M36.m;simp only[m68 h,bindO]
theorem m75(h:Ck N A C):M75.m ⟨N,A,[],C⟩=some (ofK N 0):=by unfold M75.m;simp only[m68 h,bindO]
theorem m76c{l:List Int}(hl:l.length<=1000000)(hv:AllV l):M76c.m ⟨l⟩=some false:=by
 have key:=iter_count (step:=M116c.s0) (λi=>⟨l,(l.length:Int),(i:Int)⟩) (y:=.inl ()) l.length (λi hi=>by
  have c1:=ilt (a:=(i:Int)) (b:=(l.length:Int)) (by omega);have:=(hv _ (AH hi)).2;have c2:M77.m ⟨l[i]⟩=some false:=(by show some (decide (l[i]>3))=_;rw[AN (by omega)]);unfold M116c.s0;simp only[c1,inR_nat hi,A5,getD_at hi,c2,bindO,A7,suc (i:=i) (by omega)]) (by
  have c1:=inlt (a:=(l.length:Int)) (b:=(l.length:Int)) (by omega);unfold M116c.s0;simp only[c1,A7])
 have key':iter M116c.s0 { s:=l,n:=(l.length:Int),i:=0 }=_:=key;unfold M76c.m M116c.m;simp only[key',bindO,sumC];rfl
structure Pat(N:NodeL)(inn st:List Int):Prop where
 li:inn.length=(ofK N 0).length
 ls:st.length=(ofK N 14).length
 vi:AllV inn
 vs:AllV st
theorem m41(h:Ck N A C){inn st:List Int}(hp:Pat N inn st):M41.m ⟨N,A,[],C,inn,st⟩=some 0:=by
 have hN:=h.few;have h15:ofK N 15=[]:=List.eq_nil_iff_forall_not_mem.2 λa ha=>by obtain⟨h1,h2⟩:=ofK_mem.1 ha;have:=(h.kind h1).2;omega
 have li:=hp.li;have ls:=hp.ls;have l1:=ofN_len (N:=N) (k:=0) (i:=N.length);have l2:=ofN_len (N:=N) (k:=14) (i:=N.length);have l1:(ofK N 0).length<=N.length:=l1;have l2:(ofK N 14).length<=N.length:=l2;have c1:((inn.length:Int) !=((ofK N 0).length:Int))=false:=by rw[li];simp
 have c2:((st.length:Int) !=((ofK N 14).length:Int))=false:=by rw[ls];simp
 unfold M41.m;simp only[m68 h,h15,m75 h,m36 h,bindO,c1,m76c (l:=inn) (by omega) hp.vi,m76c (l:=st) (by omega) hp.vs,BX,A5,A7,c2];rfl
end
end Co
end
section
open Go.Abs
namespace Co
structure Nn(nd:NodeL)(n i:Nat)(x:Int×List Int×Int×Int):Prop where
 k0:0<=x.1
 k1:x.1<15
 f0:(fan x.1).1<=x.2.1.length
 f1:(x.2.1.length:Int)<=(fan x.1).2
 few:x.2.1.length<=3
 pins:∀a∈x.2.1,In n a
 low:isC x.1=true->∀a∈x.2.1,a<i
 tri:x.1=13->∀a∈x.2.1,kd nd a=12
 mem:x.2.2.1=0
 bit:x.2.2.2=0
structure Bd(nd:NodeL):Prop where
 nn:∀i (hi:i<nd.length),Nn nd nd.length i nd[i]
theorem kd_app{nd:NodeL}{x:Int×List Int×Int×Int}{a:Int}(h:In nd.length a):kd (nd++[x]) a=kd nd a:=by unfold kd;rw[AK (by obtain⟨q1,q2⟩:=h;omega)]
theorem Bd.snoc{nd:NodeL}(h:Bd nd){x:Int×List Int×Int×Int}(hx:Nn nd nd.length nd.length x):Bd (nd++[x]) where
 nn:=λi hi=>by
  rw[AL,Bi]at hi⊢;by_cases e:i<nd.length
  ·rw[BP e];have g:=h.nn i e;exact { g with pins:=λa ha=>by obtain⟨q1,q2⟩:=g.pins a ha;exact⟨q1,by omega⟩,tri:=λhk a ha=>by rw[kd_app (g.pins a ha)];exact g.tri hk a ha }
  ·have e1:i=nd.length:=(by omega);subst e1;rw[Be (A6 _)];simp only[Nat.sub_self,List.getElem_cons_zero];exact { hx with pins:=λa ha=>by obtain⟨q1,q2⟩:=hx.pins a ha;exact⟨q1,by omega⟩,tri:=λhk a ha=>by rw[kd_app (hx.pins a ha)];exact hx.tri hk a ha }
theorem nzN{n:Nat}(h:0<n):nz (n:Int)=true:=by simp only[nz,Bo,Ae];omega
theorem u8in{x:Int}(h:0<=x/\x<=255):IntKind.i64.wrap x=x:=w64 (by omega) (by omega)
theorem modIn{x:Int}{n:Nat}(h:0<=x/\x<=255)(hn:0<n):In n ((IntKind.i64.wrap x).tmod (n:Int)):=by rw[u8in h,Ap h.1];exact⟨Int.emod_nonneg _ (by omega),Cf _ (by omega)⟩
def trs(nd:NodeL)(i:Nat):List Int:=(nums i).filter λa=>kd nd a==12
theorem trs_len{nd:NodeL}{i:Nat}:(trs nd i).length<=i:=by have:=C7 (λa=>kd nd a==12) (nums i);rwa [nums_len]at this
theorem trs_mem{nd:NodeL}{i:Nat}{a:Int}(h:a∈trs nd i):In i a/\kd nd a=12:=by unfold trs at h;rw[CT,nums_mem,Av]at h;exact h
abbrev B8(x:Int):Prop:=0<=x/\x<=255
theorem m51{xi df d0 d1 w0 w1 w2 w3:Int}{bus mem:Bool}{gs:List (Int×Int×Int×Int)}{xo:List Int}{gk g0 g1 g2:Int}{nd:NodeL}(h0:0<nd.length)(hl:nd.length<=100)(hk:B8 gk)(q0:B8 g0)(q1:B8 g1)(q2:B8 g2):
  ∃k p,M51.m ⟨xi,df,d0,d1,bus,mem,w0,w1,w2,w3,gs,xo,gk,g0,g1,g2,0,nd.length,nd⟩=some (k,p,0,0,nd)/\Nn nd nd.length nd.length (k,p,0,0):=by
 have key:=iter_count (step:=M51.s0) (λi=>⟨0,nd.length,(nd.length:Int),(IntKind.i64.wrap g0).tmod (nd.length:Int),(IntKind.i64.wrap g1).tmod (nd.length:Int),(IntKind.i64.wrap g2).tmod (nd.length:Int),0,(trs nd i).length,(i:Int),nd,xi,df,d0,d1,bus,mem,w0,w1,w2,w3,gs,xo,gk,g0,g1,g2,trs nd i⟩) (y:=⟨(IntKind.i64.wrap g0).tmod (nd.length:Int),(IntKind.i64.wrap g1).tmod (nd.length:Int),(IntKind.i64.wrap g2).tmod (nd.length:Int),trs nd nd.length,nd,xi,df,d0,d1,bus,mem,w0,w1,w2,w3,gs,xo,gk,g0,g1,g2⟩) nd.length (λi hi=>by
  have c1:=ilt (a:=(i:Int)) (b:=(nd.length:Int)) (by omega);have hl:=trs_len (nd:=nd) (i:=i);have hs:trs nd (i+1)=if kd nd (i:Int)==12 then trs nd i++[(i:Int)] else trs nd i:=by
   unfold trs;rw[nums_succ,C2]
   cases e:kd nd (i:Int)==12 with
   |true=>rw[Cg (p:=λa=>kd nd a==12) e];rfl
   |false=>rw[Ch (p:=λa=>kd nd a==12) (by show¬(kd nd (i:Int)==12)=true;rw[e];simp)];simp
  have e6:(nd[i]?.getD (0,[],0,0)).1=kd nd (i:Int):=rfl;unfold M51.s0;simp only[c1,inR_nat hi,A5,AI,AC,dlt hi,e6,hs,suc (i:=i) (by omega)]
  cases kd nd (i:Int)==12 with
  |true=>simp only[A5,eqN_of rfl,room (n:=(trs nd i).length+1) (b:=8) (by omega) (by omega),AG,Ag,AL,Bi]
  |false=>simp only[A7];rfl) (by
  have c1:=inlt (a:=(nd.length:Int)) (b:=(nd.length:Int)) (by omega);unfold M51.s0;simp only[c1,A7,AI,leB_of (A6 _),AG,A5,AU,Ak])
 have ha:=modIn (n:=nd.length) q0 h0;have hb:=modIn (n:=nd.length) q1 h0;have hd:=modIn (n:=nd.length) q2 h0;have htm:∀a∈trs nd nd.length,In nd.length a/\kd nd a=12:=λa ha=>trs_mem ha;have htl:=trs_len (nd:=nd) (i:=nd.length);have key':iter M51.s0 { nodes_lo:=0,nodes_len:=nd.length,n:=(nd.length:Int),a:=(IntKind.i64.wrap g0).tmod (nd.length:Int),bb:=(IntKind.i64.wrap g1).tmod (nd.length:Int),d:=(IntKind.i64.wrap g2).tmod (nd.length:Int),tris_lo:=0,tris_len:=0,i:=0,nd:=nd,xin:=xi,dffs:=df,d0:=d0,d1:=d1,bus:=bus,mem:=mem,w0:=w0,w1:=w1,w2:=w2,w3:=w3,gates:=gs,xouts:=xo,gk:=gk,g0:=g0,g1:=g1,g2:=g2,tr:=[] }=_:=key;unfold M51.m;simp only[nzN h0,A5,key',bindO];clear key key';revert ha hb hd htm htl;generalize (IntKind.i64.wrap g0).tmod (nd.length:Int)=a;generalize (IntKind.i64.wrap g1).tmod (nd.length:Int)=b;generalize (IntKind.i64.wrap g2).tmod (nd.length:Int)=d;generalize trs nd nd.length=ts;intro ha hb hd htm htl;have hkk:0<=(bif bus then IntKind.i64.wrap (gk.tmod 13) else IntKind.i64.wrap (gk.tmod 9))/\(bif bus then IntKind.i64.wrap (gk.tmod 13) else IntKind.i64.wrap (gk.tmod 9))<=12:=by
  have e1:gk.tmod 13=gk%13:=Ap hk.1;have e2:gk.tmod 9=gk%9:=Ap hk.1;rw[e1,e2,w64 (by omega) (by omega),w64 (by omega) (by omega)];cases bus
  ·show 0<=gk%9/\gk%9<=12;omega
  ·show 0<=gk%13/\gk%13<=12;omega
 revert hkk;generalize (bif bus then IntKind.i64.wrap (gk.tmod 13) else IntKind.i64.wrap (gk.tmod 9))=kk;intro hkk;have mk:∀(k:Int) (p:List Int),0<=k->k<15->(fan k).1<=p.length->(p.length:Int)<=(fan k).2->p.length<=3->(∀a∈p,In nd.length a)->(k=13->∀a∈p,kd nd a=12)->Nn nd nd.length nd.length (k,p,0,0):=
  λk p h1 h2 h3 h4 h5 h6 h7=>⟨h1,h2,h3,h4,h5,h6,λ_ a ha=>(h6 a ha).2,h7,rfl,rfl⟩
 by_cases c6:kk<6
 ·have e1:IntKind.u8.wrap (5+IntKind.u8.wrap kk)=5+kk:=(by have:IntKind.u8.wrap kk=kk:=w8 (by omega) (by omega);rw[this];exact w8 (by omega) (by omega));have hfan:∀p:List Int,2<=p.length->p.length<=3->(fan (5+kk)).1<=p.length/\(p.length:Int)<=(fan (5+kk)).2:=λp l1 l2=>by
   have e:kk=0\/kk=1\/kk=2\/kk=3\/kk=4\/kk=5:=(by omega);have:fan (5+kk)=(2,16):=by rcases e with rfl|rfl|rfl|rfl|rfl|rfl<;>rfl
   rw[this];exact⟨by show(2:Int)<=p.length;omega,by show(p.length:Int)<=16;omega⟩
  simp only[AB c6,A5,e1]
  cases decide (gk>=128) with
  |true=>have e2:leB 3 ([a,b]++[d]).length=true:=rfl;simp only[A5,e2,AG];refine⟨_,_,rfl,mk _ _ (by omega) (by omega) (hfan [a,b,d] (AO rfl) (AO rfl)).1 (hfan [a,b,d] (AO rfl) (AO rfl)).2 (AO rfl) (λx hx=> ?_) (λh=>by omega)⟩;have hx:x∈[a,b,d]:=hx;simp only[AW,Ao,Bl]at hx;rcases hx with rfl|rfl|rfl<;>assumption
  |false=>simp only[A7];refine⟨_,_,rfl,mk _ _ (by omega) (by omega) (hfan [a,b] (AO rfl) (AO rfl)).1 (hfan [a,b] (AO rfl) (AO rfl)).2 (AO rfl) (λx hx=> ?_) (λh=>by omega)⟩;simp only[AW,Ao,Bl]at hx;rcases hx with rfl|rfl<;>assumption
 ·simp only[AN c6,A7];by_cases e6:kk=6
  ·have g:(kk==6)=true:=Av.2 e6;simp only[g,A5];exact⟨_,_,rfl,mk 4 [a] (by omega) (by omega) (AO rfl) (AO rfl) (AO rfl) (λx hx=>by rw[Ai.1 hx];exact ha) (λh=>by omega)⟩
  ·have g:(kk==6)=false:=Ae.2 e6;simp only[g,A7];by_cases e7:kk=7
   ·have g:(kk==7)=true:=Av.2 e7;simp only[g,A5];refine⟨_,_,rfl,mk 11 [a,b,d] (by omega) (by omega) (AO rfl) (AO rfl) (AO rfl) (λx hx=> ?_) (λh=>by omega)⟩;simp only[AW,Ao,Bl]at hx;rcases hx with rfl|rfl|rfl<;>assumption
   ·have g:(kk==7)=false:=Ae.2 e7;simp only[g,A7]
    cases (bif kk==9 then true else kk==10) with
    |true=>simp only[A5];refine⟨_,_,rfl,mk 12 [a,b] (by omega) (by omega) (AO rfl) (AO rfl) (AO rfl) (λx hx=> ?_) (λh=>by omega)⟩;simp only[AW,Ao,Bl]at hx;rcases hx with rfl|rfl<;>assumption
    |false=>
     simp only[A7];have last:∃k p,(bif decide (gk>240) then some (IntKind.u8.wrap (1+g0.tmod 2),([]:List Int),(0:Int),(0:Int),nd) else some (3,[a],0,0,nd))=some (k,p,0,0,nd)/\Nn nd nd.length nd.length (k,p,0,0):=by
      cases decide (gk>240) with
      |true=>
       have e1:g0.tmod 2=g0%2:=Ap q0.1;have e2:IntKind.u8.wrap (1+g0.tmod 2)=1+g0%2:=(by rw[e1];exact w8 (by omega) (by omega));rw[e2];have e3:fan (1+g0%2)=(0,0):=by have:g0%2=0\/g0%2=1:=(by omega);rcases this with e|e<;>(rw[e];rfl)
       exact⟨_,_,rfl,mk (1+g0%2) [] (by omega) (by omega) (by rw[e3];exact AO rfl) (by rw[e3];exact AO rfl) (AO rfl) (λx hx=>by cases hx) (λh=>by omega)⟩
      |false=>exact⟨_,_,rfl,mk 3 [a] (by omega) (by omega) (AO rfl) (AO rfl) (AO rfl) (λx hx=>by rw[Ai.1 hx];exact ha) (λh=>by omega)⟩
     by_cases ct:(bif decide (kk>10) then decide ((ts.length:Int)>0) else false)=true
     ·have hts:0<ts.length:=by
       cases h:decide (kk>10) with
       |true=>rw[h]at ct;have:=AO ct;omega
       |false=>rw[h]at ct;cases ct
      simp only[ct,A5,nzN hts];have hi:=modIn (n:=ts.length) q0 hts;have hat:∀i:Int,In ts.length i->In nd.length (ts[i.toNat]?.getD 0)/\kd nd (ts[i.toNat]?.getD 0)=12:=λi hi=>(by have h1:i.toNat<ts.length:=(by obtain⟨q1,q2⟩:=hi;omega);rw[A4 h1];exact htm _ (AH h1));simp only[inR_int hi,A5];by_cases ct2:(ts.length:Int)>1
      ·have hj:In ts.length ((IntKind.i64.wrap ((IntKind.i64.wrap g0).tmod (ts.length:Int)+1)).tmod (ts.length:Int)):=(by obtain⟨r1,r2⟩:=hi;rw[w64 (by omega) (by omega),Ap (by omega)];exact⟨Int.emod_nonneg _ (by omega),Cf _ (by omega)⟩);have e2:∀u v:Int,leB 2 ([u]++[v]).length=true:=λu v=>rfl;simp only[AB ct2,A5,inR_int hj,e2,AG];refine⟨_,_,rfl,mk 13 [ts[((IntKind.i64.wrap g0).tmod (ts.length:Int)).toNat]?.getD 0,ts[((IntKind.i64.wrap ((IntKind.i64.wrap g0).tmod (ts.length:Int)+1)).tmod (ts.length:Int)).toNat]?.getD 0] (by omega) (by omega) (by show(1:Int)<=2;omega) (by show(2:Int)<=16;omega) (by show 2<=3;omega) (λx hx=> ?_) (λ_ x hx=> ?_)⟩
       ·simp only[AW,Ao,Bl]at hx;rcases hx with rfl|rfl
        ·exact(hat _ hi).1
        ·exact(hat _ hj).1
       ·simp only[AW,Ao,Bl]at hx;rcases hx with rfl|rfl
        ·exact(hat _ hi).2
        ·exact(hat _ hj).2
      ·simp only[AN ct2,A7];refine⟨_,_,rfl,mk 13 [ts[((IntKind.i64.wrap g0).tmod (ts.length:Int)).toNat]?.getD 0] (by omega) (by omega) (by show(1:Int)<=1;omega) (by show(1:Int)<=16;omega) (by show 1<=3;omega) (λx hx=> ?_) (λ_ x hx=> ?_)⟩
       ·rw[Ai.1 hx];exact(hat _ hi).1
       ·rw[Ai.1 hx];exact(hat _ hi).2
     ·have ct':(bif decide (kk>10) then decide ((ts.length:Int)>0) else false)=false:=(by simpa using ct);simp only[ct',A7];exact last
end Co
end
section
open Go.Abs
namespace Co
section
variable {N:NodeL}{A:List (List UInt8)}{C:List Int}
theorem ofK_at{k:Int}{i:Nat}(hi:i<(ofK N k).length):In N.length (ofK N k)[i]/\kd N (ofK N k)[i]=k:=ofK_mem.1 (AH hi)
theorem puts_succ{l vals xs:List Int}{i:Nat}(h1:i<l.length)(h2:i<vals.length):(puts l vals i xs).set l[i].toNat vals[i]=puts l vals (i+1) xs:=by rw[puts];simp only[h1,h2,A4,BC]
theorem m42(h:Ck N A C){inn st:List Int}(hp:Pat N inn st):M42.m ⟨N,A,[],C,0,N.length,N.length,inn,st,List.replicate N.length 0⟩=some (base N inn st):=by
 have hN:=h.few;have k0:=iter_count (step:=M42.s0) (λi=>⟨ofK N 0,((ofK N 0).length:Int),(i:Int),puts (ofK N 0) inn i (List.replicate N.length 0),N,A,[],C,0,N.length,N.length,inn,st⟩) (y:=⟨puts (ofK N 0) inn (ofK N 0).length (List.replicate N.length 0),N,A,[],C,0,N.length,N.length,inn,st⟩) (ofK N 0).length (λi hi=>by
  have c1:=ilt (a:=(i:Int)) (b:=((ofK N 0).length:Int)) (by omega);have hr:=(ofK_at hi).1;have hii:i<inn.length:=(by rw[hp.li];exact hi);have hlt:(ofK N 0)[i].toNat<(puts (ofK N 0) inn i (List.replicate N.length 0)).length:=(by rw[puts_len,BR];obtain⟨q1,q2⟩:=hr;omega);have hib:i<1000000:=(by have:(ofK N 0).length<=N.length:=ofN_len;omega);unfold M42.s0;simp only[c1,inR_nat hi,inR_nat hii,A5,getD_at hi,getD_at hii,inR_int hr,AI,dlt hlt,suc (i:=i) (by omega),puts_succ hi hii]) (by
  have c1:=inlt (a:=((ofK N 0).length:Int)) (b:=((ofK N 0).length:Int)) (by omega);unfold M42.s0;simp only[c1,A7])
 have k1:=iter_count (step:=M42.s1) (λi=>⟨ofK N 14,((ofK N 14).length:Int),(i:Int),puts (ofK N 14) st i (puts (ofK N 0) inn (ofK N 0).length (List.replicate N.length 0)),N,A,[],C,0,N.length,N.length,inn,st⟩) (y:=⟨base N inn st⟩) (ofK N 14).length (λi hi=>by
  have c1:=ilt (a:=(i:Int)) (b:=((ofK N 14).length:Int)) (by omega);have hr:=(ofK_at hi).1;have hii:i<st.length:=(by rw[hp.ls];exact hi);have hlt:(ofK N 14)[i].toNat<(puts (ofK N 14) st i (puts (ofK N 0) inn (ofK N 0).length (List.replicate N.length 0))).length:=(by rw[puts_len,puts_len,BR];obtain⟨q1,q2⟩:=hr;omega);have hib:i<1000000:=(by have:(ofK N 14).length<=N.length:=ofN_len;omega);unfold M42.s1;simp only[c1,inR_nat hi,inR_nat hii,A5,getD_at hi,getD_at hii,inR_int hr,AI,dlt hlt,suc (i:=i) (by omega),puts_succ hi hii]) (by
  have c1:=inlt (a:=((ofK N 14).length:Int)) (b:=((ofK N 14).length:Int)) (by omega);unfold M42.s1;simp only[c1,A7];rfl)
 have k0':iter M42.s0 { l:=ofK N 0,n:=((ofK N 0).length:Int),i:=0,xs:=List.replicate N.length 0,nodes:=N,names:=A,mems:=[],outs:=C,nets_lo:=0,nets_len:=N.length,nets_cap:=N.length,inn:=inn,state:=st }=_:=k0;have k1':iter M42.s1 { l:=ofK N 14,n:=((ofK N 14).length:Int),i:=0,xs:=puts (ofK N 0) inn (ofK N 0).length (List.replicate N.length 0),nodes:=N,names:=A,mems:=[],outs:=C,nets_lo:=0,nets_len:=N.length,nets_cap:=N.length,inn:=inn,state:=st }=_:=k1;unfold M42.m;simp only[m75 h,bindO,k0',m36 h,k1']
theorem m87{nets:List Int}(hv:AllV nets){a:Int}(ha:In nets.length a):M87.m ⟨N,A,[],C,nets,a⟩=some (ky nets a):=by
 obtain⟨q1,q2⟩:=ha;have c1:=inlt (a:=a) (b:=0) (by omega);have c2:decide (a>=(nets.length:Int))=false:=AN (by omega);have hk:=allV_ky hv a;have c3:M120.m ⟨nets[a.toNat]?.getD 0⟩=some (ky nets a):=by unfold M120.m;have:decide (nets[a.toNat]?.getD 0>3)=false:=AN (by unfold ky at hk;omega);simp only[this];rfl
 unfold M87.m;simp only[c1,c2,A7,inR_int ⟨q1,q2⟩,A5,c3,bindO]
theorem m79r(v:Int):M79.m ⟨v⟩=some (rdv v):=rfl
theorem m88{l:List Int}(hl:l.length<=1000000):M88.m ⟨l⟩=some l:=by unfold M88.m;have c1:decide (0<=(l.length:Int))=true:=AB (by omega);have c2:decide ((l.length:Int)<=(l.length:Int))=true:=AB (by omega);simp only[c1,c2,AC,AG,A5,Nat.sub_zero,AU,Ak]
theorem map_snoc{α:Type}{f:Int->α}{l:List Int}{i:Nat}(hi:i<l.length):(l.take i).map f++[f l[i]]=(l.take (i+1)).map f:=by rw[take_succ' hi,AZ];rfl
theorem m45(h:Ck N A C){nets:List Int}(hl:nets.length=N.length)(hv:AllV nets):M45.m ⟨N,A,[],C,0,N.length,N.length,nets⟩=some (outsV C nets,nexts good N nets,nets):=by
 have hN:=h.few;have ht:List.take N.length nets=nets:=AJ (by omega);have hC:=h.fewC;have lK:(ofK N 14).length<=N.length:=ofN_len;have k0:=iter_count (step:=M45.s0) (λi=>⟨C,(C.length:Int),(i:Int),nets,N,A,[],C,0,N.length,N.length,0,i,(C.take i).map (ky nets)⟩) (y:=⟨nets,N,A,[],C,0,N.length,N.length,outsV C nets⟩) C.length (λi hi=>by
  have c1:=ilt (a:=(i:Int)) (b:=(C.length:Int)) (by omega);have hr:In nets.length C[i]:=(by rw[hl];exact h.outs _ (AH hi));unfold M45.s0;simp only[c1,inR_nat hi,A5,AI,AU,ht,hl,leB_of (A6 N.length),getD_at hi,m87 hv hr,bindO,eqN_of rfl,eqN_of (show((C.take i).map (ky nets)).length=i by simp;omega),room (n:=i+1) (b:=1) (by omega) (by omega),AG,suc (i:=i) (by omega),map_snoc hi]) (by
  have c1:=inlt (a:=(C.length:Int)) (b:=(C.length:Int)) (by omega);unfold M45.s0;simp only[c1,A7,AI,Ak,AA,leB_of (A6 _),AG,A5,AU];rw[AJ (by simp)];rfl)
 have k1:=iter_count (step:=M45.s1) (λi=>⟨ofK N 14,((ofK N 14).length:Int),(i:Int),nets,N,A,[],C,0,N.length,N.length,outsV C nets,0,i,((ofK N 14).take i).map λi=>rdv (ky nets (pin0 N i))⟩) (y:=⟨nets,outsV C nets,nexts good N nets⟩) (ofK N 14).length (λi hi=>by
  have c1:=ilt (a:=(i:Int)) (b:=((ofK N 14).length:Int)) (by omega);obtain⟨hr,hk⟩:=ofK_at hi;have hp:=h.dff hr hk;have h0:0<(pn N (ofK N 14)[i].toNat).length:=(by omega);have e5:(N[(ofK N 14)[i].toNat]?.getD (0,[],0,0)).2.1=pn N (ofK N 14)[i].toNat:=rfl;have c2:((((pn N (ofK N 14)[i].toNat).length:Nat):Int)==1)=true:=(by rw[hp];rfl);have c3:inR 0 (pn N (ofK N 14)[i].toNat).length=true:=(by rw[hp];rfl);have hpin:In nets.length (pin0 N (ofK N 14)[i]):=(by rw[hl];unfold pin0;rw[A4 h0];exact(h.pins hr).2 _ (AH h0));have e6:(pn N (ofK N 14)[i].toNat)[0]?.getD 0=pin0 N (ofK N 14)[i]:=rfl;unfold M45.s1;simp only[c1,inR_nat hi,A5,getD_at hi,inR_int hr,e5,c2,c3,e6,AI,AU,ht,hl,leB_of (A6 N.length),m87 hv hpin,bindO,m79r,eqN_of rfl,eqN_of (show(((ofK N 14).take i).map λi=>rdv (ky nets (pin0 N i))).length=i by simp;omega),room (n:=i+1) (b:=1) (by omega) (by omega),AG,suc (i:=i) (by omega),map_snoc (f:=λi=>rdv (ky nets (pin0 N i))) hi]) (by
  have c1:=inlt (a:=((ofK N 14).length:Int)) (b:=((ofK N 14).length:Int)) (by omega);unfold M45.s1;simp only[c1,A7,AI,Ak,AA,leB_of (A6 _),AG,A5,AU];rw[AJ (by simp)];rfl)
 have k0':iter M45.s0 { l:=C,n:=(C.length:Int),i:=0,xs:=nets,nodes:=N,names:=A,mems:=[],outs:=C,nets_lo:=0,nets_len:=N.length,nets_cap:=N.length,a_lo:=0,a_len:=0,oxs:=[] }=_:=k0;have k1':iter M45.s1 { l:=ofK N 14,n:=((ofK N 14).length:Int),i:=0,xs:=nets,nodes:=N,names:=A,mems:=[],outs:=C,nets_lo:=0,nets_len:=N.length,nets_cap:=N.length,a:=outsV C nets,b_lo:=0,b_len:=0,oxs:=[] }=_:=k1;unfold M45.m;simp only[k0',bindO,m36 h,k1',m88 (l:=outsV C nets) (by simp[outsV];omega),m88 (l:=nexts good N nets) (by simp[nexts];omega)]
def bfs(l nets buf:List Int)(j:Nat):List Int:=((l.take j).map (ky nets))++buf.drop j
theorem m15_1{nets buf:List Int}{l:List Int}(hl:nets.length=N.length)(hp:l.length<=16)(hr:∀a∈l,In N.length a)(hb:buf.length=16){o inn st:List Int}{n i k kind mem bit:Int}{inn2:List Int}:
  iter M15.s1 ⟨0,0,16,o,n,i,k,l,(l.length:Int),0,N,A,[],C,inn,st,nets,N,A,[],C,0,N.length,N.length,buf,kind,inn2,mem,bit⟩=some ⟨0,l.length,16,o,n,i,k,N,A,[],C,inn,st,nets,N,A,[],C,0,N.length,N.length,bfs l nets buf l.length,kind,inn2,mem,bit⟩:=by
 have key:=iter_count (step:=M15.s1) (λj=>⟨0,j,16,o,n,i,k,l,(l.length:Int),(j:Int),N,A,[],C,inn,st,nets,N,A,[],C,0,N.length,N.length,bfs l nets buf j,kind,inn2,mem,bit⟩) (y:=⟨0,l.length,16,o,n,i,k,N,A,[],C,inn,st,nets,N,A,[],C,0,N.length,N.length,bfs l nets buf l.length,kind,inn2,mem,bit⟩) l.length (λj hj=>by
  have c1:=ilt (a:=(j:Int)) (b:=(l.length:Int)) (by omega);have ha:=hr _ (AH hj);have hlt:l[j].toNat<nets.length:=(by obtain⟨q1,q2⟩:=ha;omega);have hlen:(bfs l nets buf j).length=16:=(by simp[bfs];omega);have e:List.take j (bfs l nets buf j)++[nets[l[j].toNat]?.getD 0]++List.drop (j+1) (bfs l nets buf j)=bfs l nets buf (j+1):=by
   unfold bfs;have hj':((l.take j).map (ky nets)).length=j:=(by simp;omega);rw[List.take_left' hj',<-map_snoc hj];rw[show(List.map (ky nets) (List.take j l)++List.drop j buf).drop (j+1)=buf.drop (j+1) by
    rw[Bu,hj',Bc (by omega),Bx,C3];congr 1;omega]
   rfl
  unfold M15.s1;simp only[c1,inR_nat hj,A5,getD_at hj,inR_int ha,AI,dlt hlt,leB_of (show j+1<=16 by omega),hlen,leB_of (A6 16),AG,suc (i:=j) (by omega),e]) (by
  have c1:=inlt (a:=(l.length:Int)) (b:=(l.length:Int)) (by omega);unfold M15.s1;simp only[c1,A7])
 have e0:bfs l nets buf 0=buf:=by simp[bfs]
 rw[e0]at key;exact key
theorem bfs_take{l nets buf:List Int}:List.take l.length (bfs l nets buf l.length)=l.map (ky nets):=by unfold bfs;rw[List.take_left' (by simp),Ak]
theorem rds_good{nets:List Int}{i:Int}:rds good N nets i=(pn N i.toNat).map (ky nets):=by unfold rds;exact C1 (by simp) λk h1 h2=>by simp[good]
theorem set_same{l:List Int}{i:Int}:l.set i.toNat (ky l i)=l:=by
 refine C1 (by simp) λk h1 h2=> ?_;rw[C0];split
 ·rename_i e;unfold ky;subst e;rw[A4 h2];rfl
 ·rfl
theorem stp_good{nets:List Int}{i:Int}:stp good N nets i=nxt good N nets i:=set_same
theorem Ord.rng{o:List Int}(h:Ord N o){i:Nat}(hi:i<o.length):In N.length o[i]:=nums_mem.1 (h.p.mem_iff.1 (AH hi))
theorem Ord.len{o:List Int}(h:Ord N o):o.length=N.length:=by rw[h.p.length_eq,nums_len]
theorem m15_0(h:Ck N A C){o:List Int}(ho:Ord N o){b inn st:List Int}(hb:b.length=N.length)(hv:AllV b):
  iter M15.s0 ⟨0,0,16,o,(o.length:Int),0,N,A,[],C,inn,st,b,N,A,[],C,0,N.length,N.length,List.replicate 16 0⟩=some ⟨sim good N o b,N,A,[],C,0,N.length,N.length⟩:=by
 have hN:=h.few;have hlo:=ho.len;obtain⟨y,h1,h2⟩:=iter_inv (step:=M15.s0) (λx=>∃(i len:Nat) (buf:List Int),x=(⟨0,len,16,o,(o.length:Int),(i:Int),N,A,[],C,inn,st,sim good N (o.take i) b,N,A,[],C,0,N.length,N.length,buf⟩:M15.p0X)/\i<=o.length/\buf.length=16) (λx=>o.length - x.i.toNat)
  (λy=>y=(⟨sim good N o b,N,A,[],C,0,N.length,N.length⟩:M15.q0X)) (by
   rintro x ⟨i,len,buf,rfl,hi,hbl⟩;unfold M15.s0;by_cases hlt:i<o.length
   ·have c1:=ilt (a:=(i:Int)) (b:=(o.length:Int)) (by omega);have hr:=ho.rng hlt;have hk:=h.kind hr;have hp:=h.pins hr;have hs:=sim_snoc (N:=N) (F:=good) (b:=b) hlt;have hsl:(sim good N (o.take i) b).length=N.length:=(by rw[sim_len,hb]);have hsv:AllV (sim good N (o.take i) b):=sim_V h good_ok (λa ha=>by
     obtain⟨k,hk,e⟩:=Bg (CX ha);rw[<-e];exact ho.rng hk) hv
    have e4:isC (N[o[i].toNat]?.getD (0,[],0,0)).1=cm N o[i].toNat:=rfl;have e5:(N[o[i].toNat]?.getD (0,[],0,0)).2.1=pn N o[i].toNat:=rfl;have e6:(N[o[i].toNat]?.getD (0,[],0,0)).1=kd N o[i]:=rfl;simp only[c1,inR_nat hlt,A5,getD_at hlt,inR_int hr,m43,bindO,e4,suc (i:=i) (by omega)]
    cases hc:cm N o[i].toNat with
    |false=>have hs':sim good N (o.take (i+1)) b=sim good N (o.take i) b:=(by rw[hs,stp_good];unfold nxt;rw[hc];rfl);simp only[BX,A5];exact⟨_,rfl,⟨i+1,len,buf,by rw[hs'],hlt,hbl⟩,by simp;omega⟩
    |true=>have c2:decide (0<=((16:Nat):Int))=true:=rfl;have hm:=m15_1 (N:=N) (A:=A) (C:=C) (nets:=sim good N (o.take i) b) (buf:=buf) (l:=pn N o[i].toNat) hsl hp.1 hp.2 hbl (o:=o) (inn:=inn) (st:=st) (n:=(o.length:Int)) (i:=(i:Int)) (k:=o[i]) (kind:=kd N o[i]) (inn2:=pn N o[i].toNat) (mem:=(N[o[i].toNat]?.getD (0,[],0,0)).2.2.1) (bit:=(N[o[i].toNat]?.getD (0,[],0,0)).2.2.2);have hbl2:(bfs (pn N o[i].toNat) (sim good N (o.take i) b) buf (pn N o[i].toNat).length).length=16:=(by have:=hp.1;simp[bfs];omega);have hev:=(ev_ok (k:=kd N o[i]) (l:=rds good N (sim good N (o.take i) b) o[i]) hk.1 (by omega) (by rw[rds_len];have:=hp.1;omega) (rds_V good_ok hsv)).1;rw[rds_good]at hev;have hlt2:o[i].toNat<(sim good N (o.take i) b).length:=(by rw[hsl];obtain⟨q1,q2⟩:=hr;omega);have hs':(sim good N (o.take i) b).set o[i].toNat (ev (kd N o[i]) (List.map (ky (sim good N (o.take i) b)) (pn N o[i].toNat)))=sim good N (o.take (i+1)) b:=(by rw[hs,stp_good];unfold nxt;rw[AF hc,rds_good]);simp only[Bool.not_true,A7,c2,A5,e5,e6,hm,AI,hbl2,leB_of hp.1,AG,AU,bfs_take,hev,inR_int hr,dlt hlt2,hs',suc (i:=i) (by omega)];exact⟨_,rfl,⟨i+1,(pn N o[i].toNat).length,_,rfl,hlt,hbl2⟩,by simp;omega⟩
   ·have c1:=inlt (a:=(i:Int)) (b:=(o.length:Int)) (by omega);have hi':i=o.length:=(by omega);subst hi';rw[Ak];simp only[c1,A7];exact⟨_,rfl,rfl⟩) ⟨0,0,16,o,(o.length:Int),((0:Nat):Int),N,A,[],C,inn,st,b,N,A,[],C,0,N.length,N.length,List.replicate 16 0⟩ ⟨0,0,List.replicate 16 0,rfl,B0 _,by simp⟩
 rw[h2]at h1;exact h1
theorem m15(h:Ck N A C)(ht:Topo N):∃o,Ord N o/\M40.m ⟨N,A,[],C⟩=some (o,0)/\∀{inn st:List Int},Pat N inn st->M15.m ⟨N,A,[],C,inn,st⟩=some (outsV C (sim good N o (base N inn st)),nexts good N (sim good N o (base N inn st)),sim good N o (base N inn st),0):=by
 obtain⟨o,h1,ho⟩:=m40 h ht;refine⟨o,ho,h1,λ{inn st} hp=> ?_⟩;have hN:=h.few;have hbV:=base_V (N:=N) hp.vi hp.vs;have hbl:=base_len (N:=N) (inn:=inn) (st:=st);have hlo:=ho.len;have h0:=m15_0 h ho (inn:=inn) (st:=st) hbl hbV;have hsl:(sim good N o (base N inn st)).length=N.length:=by rw[sim_len,hbl]
 have hsv:AllV (sim good N o (base N inn st)):=sim_V h good_ok (λa ha=>by
  obtain⟨k,hk,e⟩:=Bg ha;rw[<-e];exact ho.rng hk) hbV
 unfold M15.m;have c1:decide (0<=(N.length:Int))=true:=AB (by omega);have c2:decide ((N.length:Int)<=(N.length:Int))=true:=AB (by omega);have c3:decide ((N.length:Int)*1<=281474976710656)=true:=AB (by omega);have c4:decide ((N.length:Int)<=9223372036854775807)=true:=AB (by omega);simp only[h1,bindO,Ca,A5,m41 h hp,BU,A7,c1,c2,c3,c4,AG,AC,m42 h hp,h0,m45 h hsl hsv,AI,hsl,leB_of (A6 N.length),AU];rw[AJ (by omega)]
end
end Co
end
section
open Go.Abs
namespace M90a
structure gX where(inn state:List (Int))(nodes:List ((Int)×(List (Int))×(Int)×Int))(names:List (List UInt8))(mems:List ((List (Int))×(List (Int))×Int))(outs:List (Int))(ln lp model lnode lpin value other:Int)
def g:Sg gX:=⟨[.c (.ptr 0 0),.agg [.arr (.int .u8),.arr (.int .u8)]],[.st [.arr (.pair (.int .u8) (.pair (.sl (.int .i64)) (.pair (.int .i64) (.int .i64)))),.arr .str,.arr (.pair (.sl (.int .i64)) (.pair (.sl (.int .i64)) (.int .i64))),.arr (.int .i64),.nils,.clo 151 [⟨1,0,0⟩,⟨2,0,0⟩],.fn 124] 1 0,.st [.it .i64,.it .i64] 1 0,.st [.clo 128 [⟨3,0,0⟩]] 1 0,.st [.it .u8,.it .i64,.it .i64,.it .u8,.it .i64] 1 0],λa b=>⟨a.2.1.1,a.2.1.2.1,b.1.1,b.1.2.1,b.1.2.2.1,b.1.2.2.2.1,b.2.1.1,b.2.1.2.1,b.2.2.2.1.1,b.2.2.2.1.2.1,b.2.2.2.1.2.2.1,b.2.2.2.1.2.2.2.1,b.2.2.2.1.2.2.2.2.1⟩,λx=>((),((x.inn,(x.state,())),())),λx=>((x.nodes,(x.names,(x.mems,(x.outs,((),((),((),()))))))),((x.ln,(x.lp,())),(((),()),((x.model,(x.lnode,(x.lpin,(x.value,(x.other,()))))),()))))⟩
abbrev fY:=List (Int)×List (Int)×(List ((Int)×(List (Int))×(Int)×Int))×List (List UInt8)×(List ((List (Int))×(List (Int))×Int))×List (Int)×Nat×Nat×Nat×Int×Int×Int×Int×Int×Int×Int×List (Int)
def f:Ft fY:=⟨some [0,1,2,3,6,4,5,7,8,9,10,11],.agg [.arr (.int .u8),.arr (.int .u8)],[.st [.arr (.pair (.int .u8) (.pair (.sl (.int .i64)) (.pair (.int .i64) (.int .i64)))),.arr .str,.arr (.pair (.sl (.int .i64)) (.pair (.sl (.int .i64)) (.int .i64))),.arr (.int .i64),.slc 4 0 1,.clo 151 [⟨1,0,0⟩,⟨2,0,0⟩],.fn 124] 1 0,.st [.it .i64,.it .i64] 1 0,.st [.clo 128 [⟨3,0,0⟩]] 1 0,.st [.it .u8,.it .i64,.it .i64,.it .u8,.it .i64] 1 0,.arr (.int .u8) 0],λa b=>(a.1,a.2.1,b.1.1,b.1.2.1,b.1.2.2.1,b.1.2.2.2.1,b.1.2.2.2.2.1.1,b.1.2.2.2.2.1.2.1,b.1.2.2.2.2.1.2.2,b.2.1.1,b.2.1.2.1,b.2.2.2.1.1,b.2.2.2.1.2.1,b.2.2.2.1.2.2.1,b.2.2.2.1.2.2.2.1,b.2.2.2.1.2.2.2.2.1,b.2.2.2.2.1),λy=>(y.1,(y.2.1,())),λy=>((y.2.2.1,(y.2.2.2.1,(y.2.2.2.2.1,(y.2.2.2.2.2.1,((y.2.2.2.2.2.2.1,y.2.2.2.2.2.2.2.1,y.2.2.2.2.2.2.2.2.1),((),((),()))))))),((y.2.2.2.2.2.2.2.2.2.1,(y.2.2.2.2.2.2.2.2.2.2.1,())),(((),()),((y.2.2.2.2.2.2.2.2.2.2.2.1,(y.2.2.2.2.2.2.2.2.2.2.2.2.1,(y.2.2.2.2.2.2.2.2.2.2.2.2.2.1,(y.2.2.2.2.2.2.2.2.2.2.2.2.2.2.1,(y.2.2.2.2.2.2.2.2.2.2.2.2.2.2.2.1,()))))),(y.2.2.2.2.2.2.2.2.2.2.2.2.2.2.2.2,())))))⟩
def cl:List (FuncId×Con):=[(36,M36.con),(75,M75.con),(40,M40.con),(129,M129a.con),(130,M130a.con),(151,M151.con),(88,M88.con)]
theorem cl_ok:Q8 Tryz.prog cl:=⟨M36.con_ok,M75.con_ok,M40.con_ok,M129a.con_ok,M130a.con_ok,M151.con_ok,M88.con_ok,trivial⟩
def E5:Env:=⟨ty,QE cl,λ_=>none,none⟩
structure p4X where(l:List (Int))(n i:Int)(nodes:List ((Int)×(List (Int))×(Int)×Int))(names:List (List UInt8))(mems:List ((List (Int))×(List (Int))×Int))(outs:List (Int))(nets_lo nets_len nets_cap:Nat)(ln lp model lnode lpin value other:Int)(inn state xs oa:List (Int))(ob_lo ob_len:Nat)(oxs:List (Int))
def p4:Pt p4X where
 own:=[.cell 7 1 (.int .u8)]
 t:=⟨[(0,.c (.ptr 0 0)),(4,.c (.ptr 5 0)),(16,.c (.ptr 7 0)),(162,.c (.arr (.int .i64))),(163,.c (.it .i64)),(164,.c (.it .i64))],[.st [.arr (.pair (.int .u8) (.pair (.sl (.int .i64)) (.pair (.int .i64) (.int .i64)))),.arr .str,.arr (.pair (.sl (.int .i64)) (.pair (.sl (.int .i64)) (.int .i64))),.arr (.int .i64),.slc 6 0 1,.clo 151 [⟨1,0,0⟩,⟨2,0,0⟩],.fn 124] 1 0,.st [.it .i64,.it .i64] 1 0,.st [.clo 128 [⟨3,0,0⟩]] 1 0,.st [.it .u8,.it .i64,.it .i64,.it .u8,.it .i64] 1 0,.st [.arr (.int .u8),.arr (.int .u8)] 1 0,.st [.junk,.junk] 1 0,.arr (.int .u8) 0,.st [.arr (.int .u8),.sl 8 0 1] 1 0,.arr (.int .u8) 0]⟩
 to:=λv=>⟨v.1.2.2.2.1,v.1.2.2.2.2.1,v.1.2.2.2.2.2.1,v.2.1.1,v.2.1.2.1,v.2.1.2.2.1,v.2.1.2.2.2.1,v.2.1.2.2.2.2.1.1,v.2.1.2.2.2.2.1.2.1,v.2.1.2.2.2.2.1.2.2,v.2.2.1.1,v.2.2.1.2.1,v.2.2.2.2.1.1,v.2.2.2.2.1.2.1,v.2.2.2.2.1.2.2.1,v.2.2.2.2.1.2.2.2.1,v.2.2.2.2.1.2.2.2.2.1,v.2.2.2.2.2.1.1,v.2.2.2.2.2.1.2.1,v.2.2.2.2.2.2.2.1,v.2.2.2.2.2.2.2.2.1.1,v.2.2.2.2.2.2.2.2.1.2.1.1,v.2.2.2.2.2.2.2.2.1.2.1.2,v.2.2.2.2.2.2.2.2.2.1⟩
 fr:=λx=>(((),((),((),(x.l,(x.n,(x.i,())))))),((x.nodes,(x.names,(x.mems,(x.outs,((x.nets_lo,x.nets_len,x.nets_cap),((),((),()))))))),((x.ln,(x.lp,())),(((),()),((x.model,(x.lnode,(x.lpin,(x.value,(x.other,()))))),((x.inn,(x.state,())),(((),((),())),(x.xs,((x.oa,((x.ob_lo,x.ob_len),())),(x.oxs,()))))))))))
structure q4X where(nodes:List ((Int)×(List (Int))×(Int)×Int))(names:List (List UInt8))(mems:List ((List (Int))×(List (Int))×Int))(outs:List (Int))(nets_lo nets_len nets_cap:Nat)(ln lp model lnode lpin value other:Int)(inn state xs oa ob:List (Int))
def q4:Pt q4X where
 own:=[]
 t:=⟨[(0,.c (.ptr 0 0)),(4,.c (.ptr 5 0)),(16,.c (.ptr 7 0))],[.st [.arr (.pair (.int .u8) (.pair (.sl (.int .i64)) (.pair (.int .i64) (.int .i64)))),.arr .str,.arr (.pair (.sl (.int .i64)) (.pair (.sl (.int .i64)) (.int .i64))),.arr (.int .i64),.slc 6 0 1,.clo 151 [⟨1,0,0⟩,⟨2,0,0⟩],.fn 124] 1 0,.st [.it .i64,.it .i64] 1 0,.st [.clo 128 [⟨3,0,0⟩]] 1 0,.st [.it .u8,.it .i64,.it .i64,.it .u8,.it .i64] 1 0,.st [.arr (.int .u8),.arr (.int .u8)] 1 0,.st [.junk,.junk] 1 0,.arr (.int .u8) 0,.st [.arr (.int .u8),.arr (.int .u8)] 1 0]⟩
 to:=λv=>⟨v.2.1.1,v.2.1.2.1,v.2.1.2.2.1,v.2.1.2.2.2.1,v.2.1.2.2.2.2.1.1,v.2.1.2.2.2.2.1.2.1,v.2.1.2.2.2.2.1.2.2,v.2.2.1.1,v.2.2.1.2.1,v.2.2.2.2.1.1,v.2.2.2.2.1.2.1,v.2.2.2.2.1.2.2.1,v.2.2.2.2.1.2.2.2.1,v.2.2.2.2.1.2.2.2.2.1,v.2.2.2.2.2.1.1,v.2.2.2.2.2.1.2.1,v.2.2.2.2.2.2.2.1,v.2.2.2.2.2.2.2.2.1.1,v.2.2.2.2.2.2.2.2.1.2.1⟩
 fr:=λx=>(((),((),((),()))),((x.nodes,(x.names,(x.mems,(x.outs,((x.nets_lo,x.nets_len,x.nets_cap),((),((),()))))))),((x.ln,(x.lp,())),(((),()),((x.model,(x.lnode,(x.lpin,(x.value,(x.other,()))))),((x.inn,(x.state,())),(((),((),())),(x.xs,((x.oa,(x.ob,())),())))))))))
def s4(x:p4X):Option (p4X⊕q4X):=bif decide (x.i<x.n) then bif inR x.i x.l.length then bindO (M130a.m ⟨x.l[x.i.toNat]?.getD 0,x.nodes,x.names,x.mems,x.outs,x.nets_lo,x.nets_len,x.nets_cap,x.ln,x.lp,x.model,x.lnode,x.lpin,x.value,x.other,x.xs⟩) λy=>bif inR 0 y.1.length then bif eqN x.ob_lo 0&&eqN x.oxs.length x.ob_len&&QT (x.ob_len+1) 1 then some (Sum.inl ⟨x.l,x.n,IntKind.i64.wrap (x.i+1),x.nodes,x.names,x.mems,x.outs,x.nets_lo,x.nets_len,x.nets_cap,x.ln,x.lp,x.model,x.lnode,x.lpin,x.value,x.other,x.inn,x.state,x.xs,x.oa,0,x.ob_len+1,x.oxs++[bif y.1[0]?.getD 0==3 then 2 else y.1[0]?.getD 0]⟩) else none else none else none else bif leB (x.ob_lo+x.ob_len) x.oxs.length&&true&&true then some (Sum.inr ⟨x.nodes,x.names,x.mems,x.outs,x.nets_lo,x.nets_len,x.nets_cap,x.ln,x.lp,x.model,x.lnode,x.lpin,x.value,x.other,x.inn,x.state,x.xs,x.oa,List.take x.ob_len (List.drop x.ob_lo x.oxs)⟩) else none
theorem s4_eq(x:p4X):exec E5 189 (C90.Q0 4) 5 (p4.R x) (p4.H x) (QP 4 p4 (.exit 8) q4)=s4 x:=by kernel_rfl
def l4:QJ:=QQ 4 p4 (.exit 8) q4 s4
theorem tl4:QA (C90.Q0 4) 5=[]:=by kernel_rfl
theorem l4_ok  :QF Tryz.prog 189 none 4 (C90.Q0 4) l4:=QG mixed (Q4 ty_ok cl_ok _) (by trivial) (λ_=>rfl) (λ_=>rfl) (tl4▸Q7.nil) s4_eq
def E4:Env:=⟨ty,QE cl,Qi [(4,l4)],none⟩
structure p3X where(sts l:List (Int))(n i:Int)(nodes:List ((Int)×(List (Int))×(Int)×Int))(names:List (List UInt8))(mems:List ((List (Int))×(List (Int))×Int))(outs:List (Int))(nets_lo nets_len nets_cap:Nat)(ln lp model lnode lpin value other:Int)(inn state xs:List (Int))(oa_lo oa_len:Nat)(oxs:List (Int))
def p3:Pt p3X where
 own:=[.cell 7 0 (.int .u8)]
 t:=⟨[(0,.c (.ptr 0 0)),(4,.c (.ptr 5 0)),(5,.c (.arr (.int .i64))),(16,.c (.ptr 7 0)),(143,.c (.arr (.int .i64))),(144,.c (.it .i64)),(145,.c (.it .i64))],[.st [.arr (.pair (.int .u8) (.pair (.sl (.int .i64)) (.pair (.int .i64) (.int .i64)))),.arr .str,.arr (.pair (.sl (.int .i64)) (.pair (.sl (.int .i64)) (.int .i64))),.arr (.int .i64),.slc 6 0 1,.clo 151 [⟨1,0,0⟩,⟨2,0,0⟩],.fn 124] 1 0,.st [.it .i64,.it .i64] 1 0,.st [.clo 128 [⟨3,0,0⟩]] 1 0,.st [.it .u8,.it .i64,.it .i64,.it .u8,.it .i64] 1 0,.st [.arr (.int .u8),.arr (.int .u8)] 1 0,.st [.junk,.junk] 1 0,.arr (.int .u8) 0,.st [.sl 8 0 1,.nils] 1 0,.arr (.int .u8) 0]⟩
 to:=λv=>⟨v.1.2.2.1,v.1.2.2.2.2.1,v.1.2.2.2.2.2.1,v.1.2.2.2.2.2.2.1,v.2.1.1,v.2.1.2.1,v.2.1.2.2.1,v.2.1.2.2.2.1,v.2.1.2.2.2.2.1.1,v.2.1.2.2.2.2.1.2.1,v.2.1.2.2.2.2.1.2.2,v.2.2.1.1,v.2.2.1.2.1,v.2.2.2.2.1.1,v.2.2.2.2.1.2.1,v.2.2.2.2.1.2.2.1,v.2.2.2.2.1.2.2.2.1,v.2.2.2.2.1.2.2.2.2.1,v.2.2.2.2.2.1.1,v.2.2.2.2.2.1.2.1,v.2.2.2.2.2.2.2.1,v.2.2.2.2.2.2.2.2.1.1.1,v.2.2.2.2.2.2.2.2.1.1.2,v.2.2.2.2.2.2.2.2.2.1⟩
 fr:=λx=>(((),((),(x.sts,((),(x.l,(x.n,(x.i,()))))))),((x.nodes,(x.names,(x.mems,(x.outs,((x.nets_lo,x.nets_len,x.nets_cap),((),((),()))))))),((x.ln,(x.lp,())),(((),()),((x.model,(x.lnode,(x.lpin,(x.value,(x.other,()))))),((x.inn,(x.state,())),(((),((),())),(x.xs,(((x.oa_lo,x.oa_len),((),())),(x.oxs,()))))))))))
structure q3X where(sts:List (Int))(nodes:List ((Int)×(List (Int))×(Int)×Int))(names:List (List UInt8))(mems:List ((List (Int))×(List (Int))×Int))(outs:List (Int))(nets_lo nets_len nets_cap:Nat)(ln lp model lnode lpin value other:Int)(inn state xs oa:List (Int))
def q3:Pt q3X where
 own:=[]
 t:=⟨[(0,.c (.ptr 0 0)),(4,.c (.ptr 5 0)),(5,.c (.arr (.int .i64))),(16,.c (.ptr 7 0))],[.st [.arr (.pair (.int .u8) (.pair (.sl (.int .i64)) (.pair (.int .i64) (.int .i64)))),.arr .str,.arr (.pair (.sl (.int .i64)) (.pair (.sl (.int .i64)) (.int .i64))),.arr (.int .i64),.slc 6 0 1,.clo 151 [⟨1,0,0⟩,⟨2,0,0⟩],.fn 124] 1 0,.st [.it .i64,.it .i64] 1 0,.st [.clo 128 [⟨3,0,0⟩]] 1 0,.st [.it .u8,.it .i64,.it .i64,.it .u8,.it .i64] 1 0,.st [.arr (.int .u8),.arr (.int .u8)] 1 0,.st [.junk,.junk] 1 0,.arr (.int .u8) 0,.st [.arr (.int .u8),.nils] 1 0]⟩
 to:=λv=>⟨v.1.2.2.1,v.2.1.1,v.2.1.2.1,v.2.1.2.2.1,v.2.1.2.2.2.1,v.2.1.2.2.2.2.1.1,v.2.1.2.2.2.2.1.2.1,v.2.1.2.2.2.2.1.2.2,v.2.2.1.1,v.2.2.1.2.1,v.2.2.2.2.1.1,v.2.2.2.2.1.2.1,v.2.2.2.2.1.2.2.1,v.2.2.2.2.1.2.2.2.1,v.2.2.2.2.1.2.2.2.2.1,v.2.2.2.2.2.1.1,v.2.2.2.2.2.1.2.1,v.2.2.2.2.2.2.2.1,v.2.2.2.2.2.2.2.2.1.1⟩
 fr:=λx=>(((),((),(x.sts,((),())))),((x.nodes,(x.names,(x.mems,(x.outs,((x.nets_lo,x.nets_len,x.nets_cap),((),((),()))))))),((x.ln,(x.lp,())),(((),()),((x.model,(x.lnode,(x.lpin,(x.value,(x.other,()))))),((x.inn,(x.state,())),(((),((),())),(x.xs,((x.oa,((),())),())))))))))
def s3(x:p3X):Option (p3X⊕q3X):=bif decide (x.i<x.n) then bif inR x.i x.l.length then bif inR (x.l[x.i.toNat]?.getD 0) x.nets_len then bif decide (x.nets_lo+Int.toNat (x.l[x.i.toNat]?.getD 0)<x.xs.length) then bif eqN x.oa_lo 0&&eqN x.oxs.length x.oa_len&&QT (x.oa_len+1) 1 then some (Sum.inl ⟨x.sts,x.l,x.n,IntKind.i64.wrap (x.i+1),x.nodes,x.names,x.mems,x.outs,x.nets_lo,x.nets_len,x.nets_cap,x.ln,x.lp,x.model,x.lnode,x.lpin,x.value,x.other,x.inn,x.state,x.xs,0,x.oa_len+1,x.oxs++[x.xs[x.nets_lo+Int.toNat (x.l[x.i.toNat]?.getD 0)]?.getD 0]⟩) else none else none else none else none else bif leB (x.oa_lo+x.oa_len) x.oxs.length&&true&&true then some (Sum.inr ⟨x.sts,x.nodes,x.names,x.mems,x.outs,x.nets_lo,x.nets_len,x.nets_cap,x.ln,x.lp,x.model,x.lnode,x.lpin,x.value,x.other,x.inn,x.state,x.xs,List.take x.oa_len (List.drop x.oa_lo x.oxs)⟩) else none
theorem s3_eq(x:p3X):exec E4 189 (C90.Q0 3) 4 (p3.R x) (p3.H x) (QP 4 p3 (.exit 6) q3)=s3 x:=by kernel_rfl
def l3:QJ:=QQ 4 p3 (.exit 6) q3 s3
theorem tl3:QA (C90.Q0 3) 4=[]:=by kernel_rfl
theorem l3_ok  :QF Tryz.prog 189 none 4 (C90.Q0 3) l3:=QG mixed (Q4 ty_ok cl_ok _) (by trivial) (λ_=>rfl) (λ_=>rfl) (tl3▸Q7.nil) s3_eq
def E3:Env:=⟨ty,QE cl,Qi [(3,l3),(4,l4)],none⟩
structure p2X where(sts l:List (Int))(n i:Int)(nodes:List ((Int)×(List (Int))×(Int)×Int))(names:List (List UInt8))(mems:List ((List (Int))×(List (Int))×Int))(outs:List (Int))(nets_lo nets_len nets_cap:Nat)(ln lp model lnode lpin value other:Int)(inn state xs:List (Int))
def p2:Pt p2X where
 own:=[]
 t:=⟨[(0,.c (.ptr 0 0)),(3,.c (.ptr 4 0)),(4,.c (.ptr 5 0)),(5,.c (.arr (.int .i64))),(12,.c (.clo 2000129 [⟨0,0,0⟩])),(89,.c (.arr (.int .i64))),(90,.c (.it .i64)),(91,.c (.it .i64))],[.st [.arr (.pair (.int .u8) (.pair (.sl (.int .i64)) (.pair (.int .i64) (.int .i64)))),.arr .str,.arr (.pair (.sl (.int .i64)) (.pair (.sl (.int .i64)) (.int .i64))),.arr (.int .i64),.slc 6 0 1,.clo 151 [⟨1,0,0⟩,⟨2,0,0⟩],.fn 124] 1 0,.st [.it .i64,.it .i64] 1 0,.st [.clo 128 [⟨3,0,0⟩]] 1 0,.st [.it .u8,.it .i64,.it .i64,.it .u8,.it .i64] 1 0,.st [.arr (.int .u8),.arr (.int .u8)] 1 0,.st [.junk,.junk] 1 0,.arr (.int .u8) 0]⟩
 to:=λv=>⟨v.1.2.2.2.1,v.1.2.2.2.2.2.1,v.1.2.2.2.2.2.2.1,v.1.2.2.2.2.2.2.2.1,v.2.1.1,v.2.1.2.1,v.2.1.2.2.1,v.2.1.2.2.2.1,v.2.1.2.2.2.2.1.1,v.2.1.2.2.2.2.1.2.1,v.2.1.2.2.2.2.1.2.2,v.2.2.1.1,v.2.2.1.2.1,v.2.2.2.2.1.1,v.2.2.2.2.1.2.1,v.2.2.2.2.1.2.2.1,v.2.2.2.2.1.2.2.2.1,v.2.2.2.2.1.2.2.2.2.1,v.2.2.2.2.2.1.1,v.2.2.2.2.2.1.2.1,v.2.2.2.2.2.2.2.1⟩
 fr:=λx=>(((),((),((),(x.sts,((),(x.l,(x.n,(x.i,())))))))),((x.nodes,(x.names,(x.mems,(x.outs,((x.nets_lo,x.nets_len,x.nets_cap),((),((),()))))))),((x.ln,(x.lp,())),(((),()),((x.model,(x.lnode,(x.lpin,(x.value,(x.other,()))))),((x.inn,(x.state,())),(((),((),())),(x.xs,()))))))))
structure q2X where(sts:List (Int))(nodes:List ((Int)×(List (Int))×(Int)×Int))(names:List (List UInt8))(mems:List ((List (Int))×(List (Int))×Int))(outs:List (Int))(nets_lo nets_len nets_cap:Nat)(ln lp model lnode lpin value other:Int)(inn state xs:List (Int))
def q2:Pt q2X where
 own:=[]
 t:=⟨[(0,.c (.ptr 0 0)),(4,.c (.ptr 5 0)),(5,.c (.arr (.int .i64)))],[.st [.arr (.pair (.int .u8) (.pair (.sl (.int .i64)) (.pair (.int .i64) (.int .i64)))),.arr .str,.arr (.pair (.sl (.int .i64)) (.pair (.sl (.int .i64)) (.int .i64))),.arr (.int .i64),.slc 6 0 1,.clo 151 [⟨1,0,0⟩,⟨2,0,0⟩],.fn 124] 1 0,.st [.it .i64,.it .i64] 1 0,.st [.clo 128 [⟨3,0,0⟩]] 1 0,.st [.it .u8,.it .i64,.it .i64,.it .u8,.it .i64] 1 0,.st [.arr (.int .u8),.arr (.int .u8)] 1 0,.st [.junk,.junk] 1 0,.arr (.int .u8) 0]⟩
 to:=λv=>⟨v.1.2.2.1,v.2.1.1,v.2.1.2.1,v.2.1.2.2.1,v.2.1.2.2.2.1,v.2.1.2.2.2.2.1.1,v.2.1.2.2.2.2.1.2.1,v.2.1.2.2.2.2.1.2.2,v.2.2.1.1,v.2.2.1.2.1,v.2.2.2.2.1.1,v.2.2.2.2.1.2.1,v.2.2.2.2.1.2.2.1,v.2.2.2.2.1.2.2.2.1,v.2.2.2.2.1.2.2.2.2.1,v.2.2.2.2.2.1.1,v.2.2.2.2.2.1.2.1,v.2.2.2.2.2.2.2.1⟩
 fr:=λx=>(((),((),(x.sts,()))),((x.nodes,(x.names,(x.mems,(x.outs,((x.nets_lo,x.nets_len,x.nets_cap),((),((),()))))))),((x.ln,(x.lp,())),(((),()),((x.model,(x.lnode,(x.lpin,(x.value,(x.other,()))))),((x.inn,(x.state,())),(((),((),())),(x.xs,()))))))))
def s2(x:p2X):Option (p2X⊕q2X):=bif decide (x.i<x.n) then bif inR x.i x.l.length then bif inR (x.l[x.i.toNat]?.getD 0) x.nodes.length then bif bif (x.nodes[Int.toNat (x.l[x.i.toNat]?.getD 0)]?.getD (0,[],0,0)).1 !=0 then (x.nodes[Int.toNat (x.l[x.i.toNat]?.getD 0)]?.getD (0,[],0,0)).1 !=14 else false then bindO (M129a.m ⟨x.l[x.i.toNat]?.getD 0,x.nodes,x.names,x.mems,x.outs,x.nets_lo,x.nets_len,x.nets_cap,x.ln,x.lp,x.model,x.lnode,x.lpin,x.value,x.other,x.xs⟩) λy=>bif inR (x.l[x.i.toNat]?.getD 0) x.nets_len then bif decide (x.nets_lo+Int.toNat (x.l[x.i.toNat]?.getD 0)<x.xs.length) then bif inR (x.l[x.i.toNat]?.getD 0) x.nets_len then bif decide (x.nets_lo+Int.toNat (x.l[x.i.toNat]?.getD 0)<(x.xs.set (x.nets_lo+Int.toNat (x.l[x.i.toNat]?.getD 0)) y.1).length) then bindO (M151.m ⟨x.l[x.i.toNat]?.getD 0,(x.xs.set (x.nets_lo+Int.toNat (x.l[x.i.toNat]?.getD 0)) y.1)[x.nets_lo+Int.toNat (x.l[x.i.toNat]?.getD 0)]?.getD 0,x.ln,x.lp,x.model,x.lnode,x.lpin,x.value,x.other⟩) λy_1=>bif inR (x.l[x.i.toNat]?.getD 0) x.nets_len then bif decide (x.nets_lo+Int.toNat (x.l[x.i.toNat]?.getD 0)<(x.xs.set (x.nets_lo+Int.toNat (x.l[x.i.toNat]?.getD 0)) y.1).length) then some (Sum.inl ⟨x.sts,x.l,x.n,IntKind.i64.wrap (x.i+1),x.nodes,x.names,x.mems,x.outs,x.nets_lo,x.nets_len,x.nets_cap,x.ln,x.lp,x.model,x.lnode,x.lpin,x.value,x.other,x.inn,x.state,(x.xs.set (x.nets_lo+Int.toNat (x.l[x.i.toNat]?.getD 0)) y.1).set (x.nets_lo+Int.toNat (x.l[x.i.toNat]?.getD 0)) y_1.1⟩) else none else none else none else none else none else none else bif inR (x.l[x.i.toNat]?.getD 0) x.nets_len then bif decide (x.nets_lo+Int.toNat (x.l[x.i.toNat]?.getD 0)<x.xs.length) then bindO (M151.m ⟨x.l[x.i.toNat]?.getD 0,x.xs[x.nets_lo+Int.toNat (x.l[x.i.toNat]?.getD 0)]?.getD 0,x.ln,x.lp,x.model,x.lnode,x.lpin,x.value,x.other⟩) λy=>bif inR (x.l[x.i.toNat]?.getD 0) x.nets_len then bif decide (x.nets_lo+Int.toNat (x.l[x.i.toNat]?.getD 0)<x.xs.length) then some (Sum.inl ⟨x.sts,x.l,x.n,IntKind.i64.wrap (x.i+1),x.nodes,x.names,x.mems,x.outs,x.nets_lo,x.nets_len,x.nets_cap,x.ln,x.lp,x.model,x.lnode,x.lpin,x.value,x.other,x.inn,x.state,x.xs.set (x.nets_lo+Int.toNat (x.l[x.i.toNat]?.getD 0)) y.1⟩) else none else none else none else none else none else none else some (Sum.inr ⟨x.sts,x.nodes,x.names,x.mems,x.outs,x.nets_lo,x.nets_len,x.nets_cap,x.ln,x.lp,x.model,x.lnode,x.lpin,x.value,x.other,x.inn,x.state,x.xs⟩)
theorem s2_eq(x:p2X):exec E3 189 (C90.Q0 2) 3 (p2.R x) (p2.H x) (QP 4 p2 (.exit 4) q2)=s2 x:=by kernel_rfl
def l2:QJ:=QQ 4 p2 (.exit 4) q2 s2
theorem tl2:QA (C90.Q0 2) 3=[]:=by kernel_rfl
theorem l2_ok  :QF Tryz.prog 189 none 4 (C90.Q0 2) l2:=QG mixed (Q4 ty_ok cl_ok _) (by trivial) (λ_=>rfl) (λ_=>rfl) (tl2▸Q7.nil) s2_eq
def E2:Env:=⟨ty,QE cl,Qi [(2,l2),(3,l3),(4,l4)],none⟩
structure p1X where(sts l:List (Int))(n i:Int)(nodes:List ((Int)×(List (Int))×(Int)×Int))(names:List (List UInt8))(mems:List ((List (Int))×(List (Int))×Int))(outs:List (Int))(nets_lo nets_len nets_cap:Nat)(ln lp model lnode lpin value other:Int)(inn state xs:List (Int))
def p1:Pt p1X where
 own:=[]
 t:=⟨[(0,.c (.ptr 0 0)),(3,.c (.ptr 4 0)),(4,.c (.ptr 5 0)),(5,.c (.arr (.int .i64))),(60,.c (.arr (.int .i64))),(61,.c (.it .i64)),(62,.c (.it .i64))],[.st [.arr (.pair (.int .u8) (.pair (.sl (.int .i64)) (.pair (.int .i64) (.int .i64)))),.arr .str,.arr (.pair (.sl (.int .i64)) (.pair (.sl (.int .i64)) (.int .i64))),.arr (.int .i64),.slc 6 0 1,.clo 151 [⟨1,0,0⟩,⟨2,0,0⟩],.fn 124] 1 0,.st [.it .i64,.it .i64] 1 0,.st [.clo 128 [⟨3,0,0⟩]] 1 0,.st [.it .u8,.it .i64,.it .i64,.it .u8,.it .i64] 1 0,.st [.arr (.int .u8),.arr (.int .u8)] 1 0,.st [.junk,.junk] 1 0,.arr (.int .u8) 0]⟩
 to:=λv=>⟨v.1.2.2.2.1,v.1.2.2.2.2.1,v.1.2.2.2.2.2.1,v.1.2.2.2.2.2.2.1,v.2.1.1,v.2.1.2.1,v.2.1.2.2.1,v.2.1.2.2.2.1,v.2.1.2.2.2.2.1.1,v.2.1.2.2.2.2.1.2.1,v.2.1.2.2.2.2.1.2.2,v.2.2.1.1,v.2.2.1.2.1,v.2.2.2.2.1.1,v.2.2.2.2.1.2.1,v.2.2.2.2.1.2.2.1,v.2.2.2.2.1.2.2.2.1,v.2.2.2.2.1.2.2.2.2.1,v.2.2.2.2.2.1.1,v.2.2.2.2.2.1.2.1,v.2.2.2.2.2.2.2.1⟩
 fr:=λx=>(((),((),((),(x.sts,(x.l,(x.n,(x.i,()))))))),((x.nodes,(x.names,(x.mems,(x.outs,((x.nets_lo,x.nets_len,x.nets_cap),((),((),()))))))),((x.ln,(x.lp,())),(((),()),((x.model,(x.lnode,(x.lpin,(x.value,(x.other,()))))),((x.inn,(x.state,())),(((),((),())),(x.xs,()))))))))
structure q1X where(sts:List (Int))(nodes:List ((Int)×(List (Int))×(Int)×Int))(names:List (List UInt8))(mems:List ((List (Int))×(List (Int))×Int))(outs:List (Int))(nets_lo nets_len nets_cap:Nat)(ln lp model lnode lpin value other:Int)(inn state xs:List (Int))
def q1:Pt q1X where
 own:=[]
 t:=⟨[(0,.c (.ptr 0 0)),(3,.c (.ptr 4 0)),(4,.c (.ptr 5 0)),(5,.c (.arr (.int .i64)))],[.st [.arr (.pair (.int .u8) (.pair (.sl (.int .i64)) (.pair (.int .i64) (.int .i64)))),.arr .str,.arr (.pair (.sl (.int .i64)) (.pair (.sl (.int .i64)) (.int .i64))),.arr (.int .i64),.slc 6 0 1,.clo 151 [⟨1,0,0⟩,⟨2,0,0⟩],.fn 124] 1 0,.st [.it .i64,.it .i64] 1 0,.st [.clo 128 [⟨3,0,0⟩]] 1 0,.st [.it .u8,.it .i64,.it .i64,.it .u8,.it .i64] 1 0,.st [.arr (.int .u8),.arr (.int .u8)] 1 0,.st [.junk,.junk] 1 0,.arr (.int .u8) 0]⟩
 to:=λv=>⟨v.1.2.2.2.1,v.2.1.1,v.2.1.2.1,v.2.1.2.2.1,v.2.1.2.2.2.1,v.2.1.2.2.2.2.1.1,v.2.1.2.2.2.2.1.2.1,v.2.1.2.2.2.2.1.2.2,v.2.2.1.1,v.2.2.1.2.1,v.2.2.2.2.1.1,v.2.2.2.2.1.2.1,v.2.2.2.2.1.2.2.1,v.2.2.2.2.1.2.2.2.1,v.2.2.2.2.1.2.2.2.2.1,v.2.2.2.2.2.1.1,v.2.2.2.2.2.1.2.1,v.2.2.2.2.2.2.2.1⟩
 fr:=λx=>(((),((),((),(x.sts,())))),((x.nodes,(x.names,(x.mems,(x.outs,((x.nets_lo,x.nets_len,x.nets_cap),((),((),()))))))),((x.ln,(x.lp,())),(((),()),((x.model,(x.lnode,(x.lpin,(x.value,(x.other,()))))),((x.inn,(x.state,())),(((),((),())),(x.xs,()))))))))
def s1(x:p1X):Option (p1X⊕q1X):=bif decide (x.i<x.n) then bif inR x.i x.l.length then bif inR x.i x.state.length then bif inR (x.l[x.i.toNat]?.getD 0) x.nets_len then bif decide (x.nets_lo+Int.toNat (x.l[x.i.toNat]?.getD 0)<x.xs.length) then some (Sum.inl ⟨x.sts,x.l,x.n,IntKind.i64.wrap (x.i+1),x.nodes,x.names,x.mems,x.outs,x.nets_lo,x.nets_len,x.nets_cap,x.ln,x.lp,x.model,x.lnode,x.lpin,x.value,x.other,x.inn,x.state,x.xs.set (x.nets_lo+Int.toNat (x.l[x.i.toNat]?.getD 0)) (x.state[x.i.toNat]?.getD 0)⟩) else none else none else none else none else some (Sum.inr ⟨x.sts,x.nodes,x.names,x.mems,x.outs,x.nets_lo,x.nets_len,x.nets_cap,x.ln,x.lp,x.model,x.lnode,x.lpin,x.value,x.other,x.inn,x.state,x.xs⟩)
theorem s1_eq(x:p1X):exec E2 189 (C90.Q0 1) 2 (p1.R x) (p1.H x) (QP 4 p1 (.exit 2) q1)=s1 x:=by kernel_rfl
def l1:QJ:=QQ 4 p1 (.exit 2) q1 s1
theorem tl1:QA (C90.Q0 1) 2=[]:=by kernel_rfl
theorem l1_ok  :QF Tryz.prog 189 none 4 (C90.Q0 1) l1:=QG mixed (Q4 ty_ok cl_ok _) (by trivial) (λ_=>rfl) (λ_=>rfl) (tl1▸Q7.nil) s1_eq
def E1:Env:=⟨ty,QE cl,Qi [(1,l1),(2,l2),(3,l3),(4,l4)],none⟩
structure p0X where(sts l:List (Int))(n i:Int)(nodes:List ((Int)×(List (Int))×(Int)×Int))(names:List (List UInt8))(mems:List ((List (Int))×(List (Int))×Int))(outs:List (Int))(nets_lo nets_len nets_cap:Nat)(ln lp model lnode lpin value other:Int)(inn state xs:List (Int))
def p0:Pt p0X where
 own:=[]
 t:=⟨[(0,.c (.ptr 0 0)),(3,.c (.ptr 4 0)),(4,.c (.ptr 5 0)),(5,.c (.arr (.int .i64))),(41,.c (.arr (.int .i64))),(42,.c (.it .i64)),(43,.c (.it .i64))],[.st [.arr (.pair (.int .u8) (.pair (.sl (.int .i64)) (.pair (.int .i64) (.int .i64)))),.arr .str,.arr (.pair (.sl (.int .i64)) (.pair (.sl (.int .i64)) (.int .i64))),.arr (.int .i64),.slc 6 0 1,.clo 151 [⟨1,0,0⟩,⟨2,0,0⟩],.fn 124] 1 0,.st [.it .i64,.it .i64] 1 0,.st [.clo 128 [⟨3,0,0⟩]] 1 0,.st [.it .u8,.it .i64,.it .i64,.it .u8,.it .i64] 1 0,.st [.arr (.int .u8),.arr (.int .u8)] 1 0,.st [.junk,.junk] 1 0,.arr (.int .u8) 0]⟩
 to:=λv=>⟨v.1.2.2.2.1,v.1.2.2.2.2.1,v.1.2.2.2.2.2.1,v.1.2.2.2.2.2.2.1,v.2.1.1,v.2.1.2.1,v.2.1.2.2.1,v.2.1.2.2.2.1,v.2.1.2.2.2.2.1.1,v.2.1.2.2.2.2.1.2.1,v.2.1.2.2.2.2.1.2.2,v.2.2.1.1,v.2.2.1.2.1,v.2.2.2.2.1.1,v.2.2.2.2.1.2.1,v.2.2.2.2.1.2.2.1,v.2.2.2.2.1.2.2.2.1,v.2.2.2.2.1.2.2.2.2.1,v.2.2.2.2.2.1.1,v.2.2.2.2.2.1.2.1,v.2.2.2.2.2.2.2.1⟩
 fr:=λx=>(((),((),((),(x.sts,(x.l,(x.n,(x.i,()))))))),((x.nodes,(x.names,(x.mems,(x.outs,((x.nets_lo,x.nets_len,x.nets_cap),((),((),()))))))),((x.ln,(x.lp,())),(((),()),((x.model,(x.lnode,(x.lpin,(x.value,(x.other,()))))),((x.inn,(x.state,())),(((),((),())),(x.xs,()))))))))
structure q0X where(sts:List (Int))(nodes:List ((Int)×(List (Int))×(Int)×Int))(names:List (List UInt8))(mems:List ((List (Int))×(List (Int))×Int))(outs:List (Int))(nets_lo nets_len nets_cap:Nat)(ln lp model lnode lpin value other:Int)(inn state xs:List (Int))
def q0:Pt q0X where
 own:=[]
 t:=⟨[(0,.c (.ptr 0 0)),(3,.c (.ptr 4 0)),(4,.c (.ptr 5 0)),(5,.c (.arr (.int .i64)))],[.st [.arr (.pair (.int .u8) (.pair (.sl (.int .i64)) (.pair (.int .i64) (.int .i64)))),.arr .str,.arr (.pair (.sl (.int .i64)) (.pair (.sl (.int .i64)) (.int .i64))),.arr (.int .i64),.slc 6 0 1,.clo 151 [⟨1,0,0⟩,⟨2,0,0⟩],.fn 124] 1 0,.st [.it .i64,.it .i64] 1 0,.st [.clo 128 [⟨3,0,0⟩]] 1 0,.st [.it .u8,.it .i64,.it .i64,.it .u8,.it .i64] 1 0,.st [.arr (.int .u8),.arr (.int .u8)] 1 0,.st [.junk,.junk] 1 0,.arr (.int .u8) 0]⟩
 to:=λv=>⟨v.1.2.2.2.1,v.2.1.1,v.2.1.2.1,v.2.1.2.2.1,v.2.1.2.2.2.1,v.2.1.2.2.2.2.1.1,v.2.1.2.2.2.2.1.2.1,v.2.1.2.2.2.2.1.2.2,v.2.2.1.1,v.2.2.1.2.1,v.2.2.2.2.1.1,v.2.2.2.2.1.2.1,v.2.2.2.2.1.2.2.1,v.2.2.2.2.1.2.2.2.1,v.2.2.2.2.1.2.2.2.2.1,v.2.2.2.2.2.1.1,v.2.2.2.2.2.1.2.1,v.2.2.2.2.2.2.2.1⟩
 fr:=λx=>(((),((),((),(x.sts,())))),((x.nodes,(x.names,(x.mems,(x.outs,((x.nets_lo,x.nets_len,x.nets_cap),((),((),()))))))),((x.ln,(x.lp,())),(((),()),((x.model,(x.lnode,(x.lpin,(x.value,(x.other,()))))),((x.inn,(x.state,())),(((),((),())),(x.xs,()))))))))
def s0(x:p0X):Option (p0X⊕q0X):=bif decide (x.i<x.n) then bif inR x.i x.l.length then bif inR x.i x.inn.length then bif inR (x.l[x.i.toNat]?.getD 0) x.nets_len then bif decide (x.nets_lo+Int.toNat (x.l[x.i.toNat]?.getD 0)<x.xs.length) then some (Sum.inl ⟨x.sts,x.l,x.n,IntKind.i64.wrap (x.i+1),x.nodes,x.names,x.mems,x.outs,x.nets_lo,x.nets_len,x.nets_cap,x.ln,x.lp,x.model,x.lnode,x.lpin,x.value,x.other,x.inn,x.state,x.xs.set (x.nets_lo+Int.toNat (x.l[x.i.toNat]?.getD 0)) (x.inn[x.i.toNat]?.getD 0)⟩) else none else none else none else none else some (Sum.inr ⟨x.sts,x.nodes,x.names,x.mems,x.outs,x.nets_lo,x.nets_len,x.nets_cap,x.ln,x.lp,x.model,x.lnode,x.lpin,x.value,x.other,x.inn,x.state,x.xs⟩)
theorem s0_eq(x:p0X):exec E1 189 (C90.Q0 0) 1 (p0.R x) (p0.H x) (QP 4 p0 (.exit 0) q0)=s0 x:=by kernel_rfl
def l0:QJ:=QQ 4 p0 (.exit 0) q0 s0
theorem tl0:QA (C90.Q0 0) 1=[]:=by kernel_rfl
theorem l0_ok  :QF Tryz.prog 189 none 4 (C90.Q0 0) l0:=QG mixed (Q4 ty_ok cl_ok _) (by trivial) (λ_=>rfl) (λ_=>rfl) (tl0▸Q7.nil) s0_eq
def E0:Env:=⟨ty,QE cl,Qi [(0,l0),(1,l1),(2,l2),(3,l3),(4,l4)],none⟩
def m(x:gX):Option fY:=bif decide (0<=(↑x.nodes.length:Int))&&decide ((↑x.nodes.length:Int)<=(↑x.nodes.length:Int))&&decide ((↑x.nodes.length:Int)*(↑1:Int)<=281474976710656)&&decide ((↑x.nodes.length:Int)<=9223372036854775807) then bindO (M36.m ⟨x.nodes,x.names,x.mems,x.outs⟩) λy=>bindO (M75.m ⟨x.nodes,x.names,x.mems,x.outs⟩) λy_1=>bindO (iter s0 ⟨y,y_1,(↑(List.length y_1):Int),0,x.nodes,x.names,x.mems,x.outs,0,(↑x.nodes.length:Int).toNat,(↑x.nodes.length:Int).toNat,x.ln,x.lp,x.model,x.lnode,x.lpin,x.value,x.other,x.inn,x.state,List.replicate (↑x.nodes.length:Int).toNat (0:Int)⟩) λy=>bindO (iter s1 ⟨y.sts,y.sts,(↑y.sts.length:Int),0,y.nodes,y.names,y.mems,y.outs,y.nets_lo,y.nets_len,y.nets_cap,y.ln,y.lp,y.model,y.lnode,y.lpin,y.value,y.other,y.inn,y.state,y.xs⟩) λy=>bindO (M40.m ⟨y.nodes,y.names,y.mems,y.outs⟩) λy_2=>bindO (iter s2 ⟨y.sts,y_2.1,(↑y_2.1.length:Int),0,y.nodes,y.names,y.mems,y.outs,y.nets_lo,y.nets_len,y.nets_cap,y.ln,y.lp,y.model,y.lnode,y.lpin,y.value,y.other,y.inn,y.state,y.xs⟩) λy=>bindO (iter s3 ⟨y.sts,y.outs,(↑y.outs.length:Int),0,y.nodes,y.names,y.mems,y.outs,y.nets_lo,y.nets_len,y.nets_cap,y.ln,y.lp,y.model,y.lnode,y.lpin,y.value,y.other,y.inn,y.state,y.xs,0,0,[]⟩) λy=>bindO (iter s4 ⟨y.sts,(↑y.sts.length:Int),0,y.nodes,y.names,y.mems,y.outs,y.nets_lo,y.nets_len,y.nets_cap,y.ln,y.lp,y.model,y.lnode,y.lpin,y.value,y.other,y.inn,y.state,y.xs,y.oa,0,0,[]⟩) λy=>bindO (M88.m ⟨y.oa⟩) λy_3=>bindO (M88.m ⟨y.ob⟩) λy_4=>some (y_3,y_4,y.nodes,y.names,y.mems,y.outs,y.nets_lo,y.nets_len,y.nets_cap,y.ln,y.lp,y.model,y.lnode,y.lpin,y.value,y.other,y.xs) else none
theorem m_eq(x:gX):exec E0 189 C90 0 (QD 0 (g.A x)) (g.H x) (finish 4 ty [.cell 4 77] f)=m x:=by kernel_rfl
theorem tl:QA C90 0=[(0,C90.Q0 0),(1,C90.Q0 1),(2,C90.Q0 2),(3,C90.Q0 3),(4,C90.Q0 4)]:=by kernel_rfl
theorem known:QB Tryz.prog 90 g f m:=
 Q5 mixed (Q4 ty_ok cl_ok _) s90 rfl rfl tl (Q7.cons rfl l0_ok (Q7.cons rfl l1_ok (Q7.cons rfl l2_ok (Q7.cons rfl l3_ok (Q7.cons rfl l4_ok Q7.nil))))) (λ_ _=>⟨rfl,rfl⟩) (λ_ _=>⟨rfl,rfl⟩) m_eq
def con:Con:=Km g [.arg 0 0,.cell 0 105,.cell 0 205,.cell 2 0] f m default
theorem con_ok:QC Tryz.prog 90 con:=Jn known
end M90a
end
section
open Go.Abs
namespace M90b
structure gX where(inn state:List (Int))(nodes:List ((Int)×(List (Int))×(Int)×Int))(names:List (List UInt8))(mems:List ((List (Int))×(List (Int))×Int))(outs:List (Int))(ln lp model lnode lpin value other:Int)
def g:Sg gX:=⟨[.c (.ptr 0 0),.agg [.arr (.int .u8),.arr (.int .u8)]],[.st [.arr (.pair (.int .u8) (.pair (.sl (.int .i64)) (.pair (.int .i64) (.int .i64)))),.arr .str,.arr (.pair (.sl (.int .i64)) (.pair (.sl (.int .i64)) (.int .i64))),.arr (.int .i64),.nils,.fn 150,.clo 152 [⟨1,0,0⟩,⟨2,0,0⟩]] 1 0,.st [.it .i64,.it .i64] 1 0,.st [.clo 128 [⟨3,0,0⟩]] 1 0,.st [.it .u8,.it .i64,.it .i64,.it .u8,.it .i64] 1 0],λa b=>⟨a.2.1.1,a.2.1.2.1,b.1.1,b.1.2.1,b.1.2.2.1,b.1.2.2.2.1,b.2.1.1,b.2.1.2.1,b.2.2.2.1.1,b.2.2.2.1.2.1,b.2.2.2.1.2.2.1,b.2.2.2.1.2.2.2.1,b.2.2.2.1.2.2.2.2.1⟩,λx=>((),((x.inn,(x.state,())),())),λx=>((x.nodes,(x.names,(x.mems,(x.outs,((),((),((),()))))))),((x.ln,(x.lp,())),(((),()),((x.model,(x.lnode,(x.lpin,(x.value,(x.other,()))))),()))))⟩
abbrev fY:=List (Int)×List (Int)×(List ((Int)×(List (Int))×(Int)×Int))×List (List UInt8)×(List ((List (Int))×(List (Int))×Int))×List (Int)×Nat×Nat×Nat×Int×Int×Int×Int×Int×Int×Int×List (Int)
def f:Ft fY:=⟨some [0,1,2,3,6,4,5,7,8,9,10,11],.agg [.arr (.int .u8),.arr (.int .u8)],[.st [.arr (.pair (.int .u8) (.pair (.sl (.int .i64)) (.pair (.int .i64) (.int .i64)))),.arr .str,.arr (.pair (.sl (.int .i64)) (.pair (.sl (.int .i64)) (.int .i64))),.arr (.int .i64),.slc 4 0 1,.fn 150,.clo 152 [⟨1,0,0⟩,⟨2,0,0⟩]] 1 0,.st [.it .i64,.it .i64] 1 0,.st [.clo 128 [⟨3,0,0⟩]] 1 0,.st [.it .u8,.it .i64,.it .i64,.it .u8,.it .i64] 1 0,.arr (.int .u8) 0],λa b=>(a.1,a.2.1,b.1.1,b.1.2.1,b.1.2.2.1,b.1.2.2.2.1,b.1.2.2.2.2.1.1,b.1.2.2.2.2.1.2.1,b.1.2.2.2.2.1.2.2,b.2.1.1,b.2.1.2.1,b.2.2.2.1.1,b.2.2.2.1.2.1,b.2.2.2.1.2.2.1,b.2.2.2.1.2.2.2.1,b.2.2.2.1.2.2.2.2.1,b.2.2.2.2.1),λy=>(y.1,(y.2.1,())),λy=>((y.2.2.1,(y.2.2.2.1,(y.2.2.2.2.1,(y.2.2.2.2.2.1,((y.2.2.2.2.2.2.1,y.2.2.2.2.2.2.2.1,y.2.2.2.2.2.2.2.2.1),((),((),()))))))),((y.2.2.2.2.2.2.2.2.2.1,(y.2.2.2.2.2.2.2.2.2.2.1,())),(((),()),((y.2.2.2.2.2.2.2.2.2.2.2.1,(y.2.2.2.2.2.2.2.2.2.2.2.2.1,(y.2.2.2.2.2.2.2.2.2.2.2.2.2.1,(y.2.2.2.2.2.2.2.2.2.2.2.2.2.2.1,(y.2.2.2.2.2.2.2.2.2.2.2.2.2.2.2.1,()))))),(y.2.2.2.2.2.2.2.2.2.2.2.2.2.2.2.2,())))))⟩
def cl:List (FuncId×Con):=[(36,M36.con),(75,M75.con),(40,M40.con),(129,M129b.con),(130,M130b.con),(150,M150.con),(88,M88.con)]
theorem cl_ok:Q8 Tryz.prog cl:=⟨M36.con_ok,M75.con_ok,M40.con_ok,M129b.con_ok,M130b.con_ok,M150.con_ok,M88.con_ok,trivial⟩
def E5:Env:=⟨ty,QE cl,λ_=>none,none⟩
structure p4X where(l:List (Int))(n i:Int)(nodes:List ((Int)×(List (Int))×(Int)×Int))(names:List (List UInt8))(mems:List ((List (Int))×(List (Int))×Int))(outs:List (Int))(nets_lo nets_len nets_cap:Nat)(ln lp model lnode lpin value other:Int)(inn state xs oa:List (Int))(ob_lo ob_len:Nat)(oxs:List (Int))
def p4:Pt p4X where
 own:=[.cell 7 1 (.int .u8)]
 t:=⟨[(0,.c (.ptr 0 0)),(4,.c (.ptr 5 0)),(16,.c (.ptr 7 0)),(162,.c (.arr (.int .i64))),(163,.c (.it .i64)),(164,.c (.it .i64))],[.st [.arr (.pair (.int .u8) (.pair (.sl (.int .i64)) (.pair (.int .i64) (.int .i64)))),.arr .str,.arr (.pair (.sl (.int .i64)) (.pair (.sl (.int .i64)) (.int .i64))),.arr (.int .i64),.slc 6 0 1,.fn 150,.clo 152 [⟨1,0,0⟩,⟨2,0,0⟩]] 1 0,.st [.it .i64,.it .i64] 1 0,.st [.clo 128 [⟨3,0,0⟩]] 1 0,.st [.it .u8,.it .i64,.it .i64,.it .u8,.it .i64] 1 0,.st [.arr (.int .u8),.arr (.int .u8)] 1 0,.st [.junk,.junk] 1 0,.arr (.int .u8) 0,.st [.arr (.int .u8),.sl 8 0 1] 1 0,.arr (.int .u8) 0]⟩
 to:=λv=>⟨v.1.2.2.2.1,v.1.2.2.2.2.1,v.1.2.2.2.2.2.1,v.2.1.1,v.2.1.2.1,v.2.1.2.2.1,v.2.1.2.2.2.1,v.2.1.2.2.2.2.1.1,v.2.1.2.2.2.2.1.2.1,v.2.1.2.2.2.2.1.2.2,v.2.2.1.1,v.2.2.1.2.1,v.2.2.2.2.1.1,v.2.2.2.2.1.2.1,v.2.2.2.2.1.2.2.1,v.2.2.2.2.1.2.2.2.1,v.2.2.2.2.1.2.2.2.2.1,v.2.2.2.2.2.1.1,v.2.2.2.2.2.1.2.1,v.2.2.2.2.2.2.2.1,v.2.2.2.2.2.2.2.2.1.1,v.2.2.2.2.2.2.2.2.1.2.1.1,v.2.2.2.2.2.2.2.2.1.2.1.2,v.2.2.2.2.2.2.2.2.2.1⟩
 fr:=λx=>(((),((),((),(x.l,(x.n,(x.i,())))))),((x.nodes,(x.names,(x.mems,(x.outs,((x.nets_lo,x.nets_len,x.nets_cap),((),((),()))))))),((x.ln,(x.lp,())),(((),()),((x.model,(x.lnode,(x.lpin,(x.value,(x.other,()))))),((x.inn,(x.state,())),(((),((),())),(x.xs,((x.oa,((x.ob_lo,x.ob_len),())),(x.oxs,()))))))))))
structure q4X where(nodes:List ((Int)×(List (Int))×(Int)×Int))(names:List (List UInt8))(mems:List ((List (Int))×(List (Int))×Int))(outs:List (Int))(nets_lo nets_len nets_cap:Nat)(ln lp model lnode lpin value other:Int)(inn state xs oa ob:List (Int))
def q4:Pt q4X where
 own:=[]
 t:=⟨[(0,.c (.ptr 0 0)),(4,.c (.ptr 5 0)),(16,.c (.ptr 7 0))],[.st [.arr (.pair (.int .u8) (.pair (.sl (.int .i64)) (.pair (.int .i64) (.int .i64)))),.arr .str,.arr (.pair (.sl (.int .i64)) (.pair (.sl (.int .i64)) (.int .i64))),.arr (.int .i64),.slc 6 0 1,.fn 150,.clo 152 [⟨1,0,0⟩,⟨2,0,0⟩]] 1 0,.st [.it .i64,.it .i64] 1 0,.st [.clo 128 [⟨3,0,0⟩]] 1 0,.st [.it .u8,.it .i64,.it .i64,.it .u8,.it .i64] 1 0,.st [.arr (.int .u8),.arr (.int .u8)] 1 0,.st [.junk,.junk] 1 0,.arr (.int .u8) 0,.st [.arr (.int .u8),.arr (.int .u8)] 1 0]⟩
 to:=λv=>⟨v.2.1.1,v.2.1.2.1,v.2.1.2.2.1,v.2.1.2.2.2.1,v.2.1.2.2.2.2.1.1,v.2.1.2.2.2.2.1.2.1,v.2.1.2.2.2.2.1.2.2,v.2.2.1.1,v.2.2.1.2.1,v.2.2.2.2.1.1,v.2.2.2.2.1.2.1,v.2.2.2.2.1.2.2.1,v.2.2.2.2.1.2.2.2.1,v.2.2.2.2.1.2.2.2.2.1,v.2.2.2.2.2.1.1,v.2.2.2.2.2.1.2.1,v.2.2.2.2.2.2.2.1,v.2.2.2.2.2.2.2.2.1.1,v.2.2.2.2.2.2.2.2.1.2.1⟩
 fr:=λx=>(((),((),((),()))),((x.nodes,(x.names,(x.mems,(x.outs,((x.nets_lo,x.nets_len,x.nets_cap),((),((),()))))))),((x.ln,(x.lp,())),(((),()),((x.model,(x.lnode,(x.lpin,(x.value,(x.other,()))))),((x.inn,(x.state,())),(((),((),())),(x.xs,((x.oa,(x.ob,())),())))))))))
def s4(x:p4X):Option (p4X⊕q4X):=bif decide (x.i<x.n) then bif inR x.i x.l.length then bindO (M130b.m ⟨x.l[x.i.toNat]?.getD 0,x.nodes,x.names,x.mems,x.outs,x.nets_lo,x.nets_len,x.nets_cap,x.ln,x.lp,x.model,x.lnode,x.lpin,x.value,x.other,x.xs⟩) λy=>bif inR 0 y.1.length then bif eqN x.ob_lo 0&&eqN x.oxs.length x.ob_len&&QT (x.ob_len+1) 1 then some (Sum.inl ⟨x.l,x.n,IntKind.i64.wrap (x.i+1),x.nodes,x.names,x.mems,x.outs,x.nets_lo,x.nets_len,x.nets_cap,x.ln,x.lp,x.model,x.lnode,x.lpin,x.value,x.other,x.inn,x.state,x.xs,x.oa,0,x.ob_len+1,x.oxs++[bif y.1[0]?.getD 0==3 then 2 else y.1[0]?.getD 0]⟩) else none else none else none else bif leB (x.ob_lo+x.ob_len) x.oxs.length&&true&&true then some (Sum.inr ⟨x.nodes,x.names,x.mems,x.outs,x.nets_lo,x.nets_len,x.nets_cap,x.ln,x.lp,x.model,x.lnode,x.lpin,x.value,x.other,x.inn,x.state,x.xs,x.oa,List.take x.ob_len (List.drop x.ob_lo x.oxs)⟩) else none
theorem s4_eq(x:p4X):exec E5 189 (C90.Q0 4) 5 (p4.R x) (p4.H x) (QP 4 p4 (.exit 8) q4)=s4 x:=by kernel_rfl
def l4:QJ:=QQ 4 p4 (.exit 8) q4 s4
theorem tl4:QA (C90.Q0 4) 5=[]:=by kernel_rfl
theorem l4_ok  :QF Tryz.prog 189 none 4 (C90.Q0 4) l4:=QG mixed (Q4 ty_ok cl_ok _) (by trivial) (λ_=>rfl) (λ_=>rfl) (tl4▸Q7.nil) s4_eq
def E4:Env:=⟨ty,QE cl,Qi [(4,l4)],none⟩
structure p3X where(sts l:List (Int))(n i:Int)(nodes:List ((Int)×(List (Int))×(Int)×Int))(names:List (List UInt8))(mems:List ((List (Int))×(List (Int))×Int))(outs:List (Int))(nets_lo nets_len nets_cap:Nat)(ln lp model lnode lpin value other:Int)(inn state xs:List (Int))(oa_lo oa_len:Nat)(oxs:List (Int))
def p3:Pt p3X where
 own:=[.cell 7 0 (.int .u8)]
 t:=⟨[(0,.c (.ptr 0 0)),(4,.c (.ptr 5 0)),(5,.c (.arr (.int .i64))),(16,.c (.ptr 7 0)),(143,.c (.arr (.int .i64))),(144,.c (.it .i64)),(145,.c (.it .i64))],[.st [.arr (.pair (.int .u8) (.pair (.sl (.int .i64)) (.pair (.int .i64) (.int .i64)))),.arr .str,.arr (.pair (.sl (.int .i64)) (.pair (.sl (.int .i64)) (.int .i64))),.arr (.int .i64),.slc 6 0 1,.fn 150,.clo 152 [⟨1,0,0⟩,⟨2,0,0⟩]] 1 0,.st [.it .i64,.it .i64] 1 0,.st [.clo 128 [⟨3,0,0⟩]] 1 0,.st [.it .u8,.it .i64,.it .i64,.it .u8,.it .i64] 1 0,.st [.arr (.int .u8),.arr (.int .u8)] 1 0,.st [.junk,.junk] 1 0,.arr (.int .u8) 0,.st [.sl 8 0 1,.nils] 1 0,.arr (.int .u8) 0]⟩
 to:=λv=>⟨v.1.2.2.1,v.1.2.2.2.2.1,v.1.2.2.2.2.2.1,v.1.2.2.2.2.2.2.1,v.2.1.1,v.2.1.2.1,v.2.1.2.2.1,v.2.1.2.2.2.1,v.2.1.2.2.2.2.1.1,v.2.1.2.2.2.2.1.2.1,v.2.1.2.2.2.2.1.2.2,v.2.2.1.1,v.2.2.1.2.1,v.2.2.2.2.1.1,v.2.2.2.2.1.2.1,v.2.2.2.2.1.2.2.1,v.2.2.2.2.1.2.2.2.1,v.2.2.2.2.1.2.2.2.2.1,v.2.2.2.2.2.1.1,v.2.2.2.2.2.1.2.1,v.2.2.2.2.2.2.2.1,v.2.2.2.2.2.2.2.2.1.1.1,v.2.2.2.2.2.2.2.2.1.1.2,v.2.2.2.2.2.2.2.2.2.1⟩
 fr:=λx=>(((),((),(x.sts,((),(x.l,(x.n,(x.i,()))))))),((x.nodes,(x.names,(x.mems,(x.outs,((x.nets_lo,x.nets_len,x.nets_cap),((),((),()))))))),((x.ln,(x.lp,())),(((),()),((x.model,(x.lnode,(x.lpin,(x.value,(x.other,()))))),((x.inn,(x.state,())),(((),((),())),(x.xs,(((x.oa_lo,x.oa_len),((),())),(x.oxs,()))))))))))
structure q3X where(sts:List (Int))(nodes:List ((Int)×(List (Int))×(Int)×Int))(names:List (List UInt8))(mems:List ((List (Int))×(List (Int))×Int))(outs:List (Int))(nets_lo nets_len nets_cap:Nat)(ln lp model lnode lpin value other:Int)(inn state xs oa:List (Int))
def q3:Pt q3X where
 own:=[]
 t:=⟨[(0,.c (.ptr 0 0)),(4,.c (.ptr 5 0)),(5,.c (.arr (.int .i64))),(16,.c (.ptr 7 0))],[.st [.arr (.pair (.int .u8) (.pair (.sl (.int .i64)) (.pair (.int .i64) (.int .i64)))),.arr .str,.arr (.pair (.sl (.int .i64)) (.pair (.sl (.int .i64)) (.int .i64))),.arr (.int .i64),.slc 6 0 1,.fn 150,.clo 152 [⟨1,0,0⟩,⟨2,0,0⟩]] 1 0,.st [.it .i64,.it .i64] 1 0,.st [.clo 128 [⟨3,0,0⟩]] 1 0,.st [.it .u8,.it .i64,.it .i64,.it .u8,.it .i64] 1 0,.st [.arr (.int .u8),.arr (.int .u8)] 1 0,.st [.junk,.junk] 1 0,.arr (.int .u8) 0,.st [.arr (.int .u8),.nils] 1 0]⟩
 to:=λv=>⟨v.1.2.2.1,v.2.1.1,v.2.1.2.1,v.2.1.2.2.1,v.2.1.2.2.2.1,v.2.1.2.2.2.2.1.1,v.2.1.2.2.2.2.1.2.1,v.2.1.2.2.2.2.1.2.2,v.2.2.1.1,v.2.2.1.2.1,v.2.2.2.2.1.1,v.2.2.2.2.1.2.1,v.2.2.2.2.1.2.2.1,v.2.2.2.2.1.2.2.2.1,v.2.2.2.2.1.2.2.2.2.1,v.2.2.2.2.2.1.1,v.2.2.2.2.2.1.2.1,v.2.2.2.2.2.2.2.1,v.2.2.2.2.2.2.2.2.1.1⟩
 fr:=λx=>(((),((),(x.sts,((),())))),((x.nodes,(x.names,(x.mems,(x.outs,((x.nets_lo,x.nets_len,x.nets_cap),((),((),()))))))),((x.ln,(x.lp,())),(((),()),((x.model,(x.lnode,(x.lpin,(x.value,(x.other,()))))),((x.inn,(x.state,())),(((),((),())),(x.xs,((x.oa,((),())),())))))))))
def s3(x:p3X):Option (p3X⊕q3X):=bif decide (x.i<x.n) then bif inR x.i x.l.length then bif inR (x.l[x.i.toNat]?.getD 0) x.nets_len then bif decide (x.nets_lo+Int.toNat (x.l[x.i.toNat]?.getD 0)<x.xs.length) then bif eqN x.oa_lo 0&&eqN x.oxs.length x.oa_len&&QT (x.oa_len+1) 1 then some (Sum.inl ⟨x.sts,x.l,x.n,IntKind.i64.wrap (x.i+1),x.nodes,x.names,x.mems,x.outs,x.nets_lo,x.nets_len,x.nets_cap,x.ln,x.lp,x.model,x.lnode,x.lpin,x.value,x.other,x.inn,x.state,x.xs,0,x.oa_len+1,x.oxs++[x.xs[x.nets_lo+Int.toNat (x.l[x.i.toNat]?.getD 0)]?.getD 0]⟩) else none else none else none else none else bif leB (x.oa_lo+x.oa_len) x.oxs.length&&true&&true then some (Sum.inr ⟨x.sts,x.nodes,x.names,x.mems,x.outs,x.nets_lo,x.nets_len,x.nets_cap,x.ln,x.lp,x.model,x.lnode,x.lpin,x.value,x.other,x.inn,x.state,x.xs,List.take x.oa_len (List.drop x.oa_lo x.oxs)⟩) else none
theorem s3_eq(x:p3X):exec E4 189 (C90.Q0 3) 4 (p3.R x) (p3.H x) (QP 4 p3 (.exit 6) q3)=s3 x:=by kernel_rfl
def l3:QJ:=QQ 4 p3 (.exit 6) q3 s3
theorem tl3:QA (C90.Q0 3) 4=[]:=by kernel_rfl
theorem l3_ok  :QF Tryz.prog 189 none 4 (C90.Q0 3) l3:=QG mixed (Q4 ty_ok cl_ok _) (by trivial) (λ_=>rfl) (λ_=>rfl) (tl3▸Q7.nil) s3_eq
def E3:Env:=⟨ty,QE cl,Qi [(3,l3),(4,l4)],none⟩
structure p2X where(sts l:List (Int))(n i:Int)(nodes:List ((Int)×(List (Int))×(Int)×Int))(names:List (List UInt8))(mems:List ((List (Int))×(List (Int))×Int))(outs:List (Int))(nets_lo nets_len nets_cap:Nat)(ln lp model lnode lpin value other:Int)(inn state xs:List (Int))
def p2:Pt p2X where
 own:=[]
 t:=⟨[(0,.c (.ptr 0 0)),(3,.c (.ptr 4 0)),(4,.c (.ptr 5 0)),(5,.c (.arr (.int .i64))),(12,.c (.clo 2000129 [⟨0,0,0⟩])),(89,.c (.arr (.int .i64))),(90,.c (.it .i64)),(91,.c (.it .i64))],[.st [.arr (.pair (.int .u8) (.pair (.sl (.int .i64)) (.pair (.int .i64) (.int .i64)))),.arr .str,.arr (.pair (.sl (.int .i64)) (.pair (.sl (.int .i64)) (.int .i64))),.arr (.int .i64),.slc 6 0 1,.fn 150,.clo 152 [⟨1,0,0⟩,⟨2,0,0⟩]] 1 0,.st [.it .i64,.it .i64] 1 0,.st [.clo 128 [⟨3,0,0⟩]] 1 0,.st [.it .u8,.it .i64,.it .i64,.it .u8,.it .i64] 1 0,.st [.arr (.int .u8),.arr (.int .u8)] 1 0,.st [.junk,.junk] 1 0,.arr (.int .u8) 0]⟩
 to:=λv=>⟨v.1.2.2.2.1,v.1.2.2.2.2.2.1,v.1.2.2.2.2.2.2.1,v.1.2.2.2.2.2.2.2.1,v.2.1.1,v.2.1.2.1,v.2.1.2.2.1,v.2.1.2.2.2.1,v.2.1.2.2.2.2.1.1,v.2.1.2.2.2.2.1.2.1,v.2.1.2.2.2.2.1.2.2,v.2.2.1.1,v.2.2.1.2.1,v.2.2.2.2.1.1,v.2.2.2.2.1.2.1,v.2.2.2.2.1.2.2.1,v.2.2.2.2.1.2.2.2.1,v.2.2.2.2.1.2.2.2.2.1,v.2.2.2.2.2.1.1,v.2.2.2.2.2.1.2.1,v.2.2.2.2.2.2.2.1⟩
 fr:=λx=>(((),((),((),(x.sts,((),(x.l,(x.n,(x.i,())))))))),((x.nodes,(x.names,(x.mems,(x.outs,((x.nets_lo,x.nets_len,x.nets_cap),((),((),()))))))),((x.ln,(x.lp,())),(((),()),((x.model,(x.lnode,(x.lpin,(x.value,(x.other,()))))),((x.inn,(x.state,())),(((),((),())),(x.xs,()))))))))
structure q2X where(sts:List (Int))(nodes:List ((Int)×(List (Int))×(Int)×Int))(names:List (List UInt8))(mems:List ((List (Int))×(List (Int))×Int))(outs:List (Int))(nets_lo nets_len nets_cap:Nat)(ln lp model lnode lpin value other:Int)(inn state xs:List (Int))
def q2:Pt q2X where
 own:=[]
 t:=⟨[(0,.c (.ptr 0 0)),(4,.c (.ptr 5 0)),(5,.c (.arr (.int .i64)))],[.st [.arr (.pair (.int .u8) (.pair (.sl (.int .i64)) (.pair (.int .i64) (.int .i64)))),.arr .str,.arr (.pair (.sl (.int .i64)) (.pair (.sl (.int .i64)) (.int .i64))),.arr (.int .i64),.slc 6 0 1,.fn 150,.clo 152 [⟨1,0,0⟩,⟨2,0,0⟩]] 1 0,.st [.it .i64,.it .i64] 1 0,.st [.clo 128 [⟨3,0,0⟩]] 1 0,.st [.it .u8,.it .i64,.it .i64,.it .u8,.it .i64] 1 0,.st [.arr (.int .u8),.arr (.int .u8)] 1 0,.st [.junk,.junk] 1 0,.arr (.int .u8) 0]⟩
 to:=λv=>⟨v.1.2.2.1,v.2.1.1,v.2.1.2.1,v.2.1.2.2.1,v.2.1.2.2.2.1,v.2.1.2.2.2.2.1.1,v.2.1.2.2.2.2.1.2.1,v.2.1.2.2.2.2.1.2.2,v.2.2.1.1,v.2.2.1.2.1,v.2.2.2.2.1.1,v.2.2.2.2.1.2.1,v.2.2.2.2.1.2.2.1,v.2.2.2.2.1.2.2.2.1,v.2.2.2.2.1.2.2.2.2.1,v.2.2.2.2.2.1.1,v.2.2.2.2.2.1.2.1,v.2.2.2.2.2.2.2.1⟩
 fr:=λx=>(((),((),(x.sts,()))),((x.nodes,(x.names,(x.mems,(x.outs,((x.nets_lo,x.nets_len,x.nets_cap),((),((),()))))))),((x.ln,(x.lp,())),(((),()),((x.model,(x.lnode,(x.lpin,(x.value,(x.other,()))))),((x.inn,(x.state,())),(((),((),())),(x.xs,()))))))))
def s2(x:p2X):Option (p2X⊕q2X):=bif decide (x.i<x.n) then bif inR x.i x.l.length then bif inR (x.l[x.i.toNat]?.getD 0) x.nodes.length then bif bif (x.nodes[Int.toNat (x.l[x.i.toNat]?.getD 0)]?.getD (0,[],0,0)).1 !=0 then (x.nodes[Int.toNat (x.l[x.i.toNat]?.getD 0)]?.getD (0,[],0,0)).1 !=14 else false then bindO (M129b.m ⟨x.l[x.i.toNat]?.getD 0,x.nodes,x.names,x.mems,x.outs,x.nets_lo,x.nets_len,x.nets_cap,x.ln,x.lp,x.model,x.lnode,x.lpin,x.value,x.other,x.xs⟩) λy=>bif inR (x.l[x.i.toNat]?.getD 0) x.nets_len then bif decide (x.nets_lo+Int.toNat (x.l[x.i.toNat]?.getD 0)<x.xs.length) then bif inR (x.l[x.i.toNat]?.getD 0) x.nets_len then bif decide (x.nets_lo+Int.toNat (x.l[x.i.toNat]?.getD 0)<(x.xs.set (x.nets_lo+Int.toNat (x.l[x.i.toNat]?.getD 0)) y.1).length) then bindO (M150.m ⟨x.l[x.i.toNat]?.getD 0,(x.xs.set (x.nets_lo+Int.toNat (x.l[x.i.toNat]?.getD 0)) y.1)[x.nets_lo+Int.toNat (x.l[x.i.toNat]?.getD 0)]?.getD 0⟩) λy_1=>bif inR (x.l[x.i.toNat]?.getD 0) x.nets_len then bif decide (x.nets_lo+Int.toNat (x.l[x.i.toNat]?.getD 0)<(x.xs.set (x.nets_lo+Int.toNat (x.l[x.i.toNat]?.getD 0)) y.1).length) then some (Sum.inl ⟨x.sts,x.l,x.n,IntKind.i64.wrap (x.i+1),x.nodes,x.names,x.mems,x.outs,x.nets_lo,x.nets_len,x.nets_cap,x.ln,x.lp,x.model,x.lnode,x.lpin,x.value,x.other,x.inn,x.state,(x.xs.set (x.nets_lo+Int.toNat (x.l[x.i.toNat]?.getD 0)) y.1).set (x.nets_lo+Int.toNat (x.l[x.i.toNat]?.getD 0)) y_1⟩) else none else none else none else none else none else none else bif inR (x.l[x.i.toNat]?.getD 0) x.nets_len then bif decide (x.nets_lo+Int.toNat (x.l[x.i.toNat]?.getD 0)<x.xs.length) then bindO (M150.m ⟨x.l[x.i.toNat]?.getD 0,x.xs[x.nets_lo+Int.toNat (x.l[x.i.toNat]?.getD 0)]?.getD 0⟩) λy=>bif inR (x.l[x.i.toNat]?.getD 0) x.nets_len then bif decide (x.nets_lo+Int.toNat (x.l[x.i.toNat]?.getD 0)<x.xs.length) then some (Sum.inl ⟨x.sts,x.l,x.n,IntKind.i64.wrap (x.i+1),x.nodes,x.names,x.mems,x.outs,x.nets_lo,x.nets_len,x.nets_cap,x.ln,x.lp,x.model,x.lnode,x.lpin,x.value,x.other,x.inn,x.state,x.xs.set (x.nets_lo+Int.toNat (x.l[x.i.toNat]?.getD 0)) y⟩) else none else none else none else none else none else none else some (Sum.inr ⟨x.sts,x.nodes,x.names,x.mems,x.outs,x.nets_lo,x.nets_len,x.nets_cap,x.ln,x.lp,x.model,x.lnode,x.lpin,x.value,x.other,x.inn,x.state,x.xs⟩)
theorem s2_eq(x:p2X):exec E3 189 (C90.Q0 2) 3 (p2.R x) (p2.H x) (QP 4 p2 (.exit 4) q2)=s2 x:=by kernel_rfl
def l2:QJ:=QQ 4 p2 (.exit 4) q2 s2
theorem tl2:QA (C90.Q0 2) 3=[]:=by kernel_rfl
theorem l2_ok  :QF Tryz.prog 189 none 4 (C90.Q0 2) l2:=QG mixed (Q4 ty_ok cl_ok _) (by trivial) (λ_=>rfl) (λ_=>rfl) (tl2▸Q7.nil) s2_eq
def E2:Env:=⟨ty,QE cl,Qi [(2,l2),(3,l3),(4,l4)],none⟩
structure p1X where(sts l:List (Int))(n i:Int)(nodes:List ((Int)×(List (Int))×(Int)×Int))(names:List (List UInt8))(mems:List ((List (Int))×(List (Int))×Int))(outs:List (Int))(nets_lo nets_len nets_cap:Nat)(ln lp model lnode lpin value other:Int)(inn state xs:List (Int))
def p1:Pt p1X where
 own:=[]
 t:=⟨[(0,.c (.ptr 0 0)),(3,.c (.ptr 4 0)),(4,.c (.ptr 5 0)),(5,.c (.arr (.int .i64))),(60,.c (.arr (.int .i64))),(61,.c (.it .i64)),(62,.c (.it .i64))],[.st [.arr (.pair (.int .u8) (.pair (.sl (.int .i64)) (.pair (.int .i64) (.int .i64)))),.arr .str,.arr (.pair (.sl (.int .i64)) (.pair (.sl (.int .i64)) (.int .i64))),.arr (.int .i64),.slc 6 0 1,.fn 150,.clo 152 [⟨1,0,0⟩,⟨2,0,0⟩]] 1 0,.st [.it .i64,.it .i64] 1 0,.st [.clo 128 [⟨3,0,0⟩]] 1 0,.st [.it .u8,.it .i64,.it .i64,.it .u8,.it .i64] 1 0,.st [.arr (.int .u8),.arr (.int .u8)] 1 0,.st [.junk,.junk] 1 0,.arr (.int .u8) 0]⟩
 to:=λv=>⟨v.1.2.2.2.1,v.1.2.2.2.2.1,v.1.2.2.2.2.2.1,v.1.2.2.2.2.2.2.1,v.2.1.1,v.2.1.2.1,v.2.1.2.2.1,v.2.1.2.2.2.1,v.2.1.2.2.2.2.1.1,v.2.1.2.2.2.2.1.2.1,v.2.1.2.2.2.2.1.2.2,v.2.2.1.1,v.2.2.1.2.1,v.2.2.2.2.1.1,v.2.2.2.2.1.2.1,v.2.2.2.2.1.2.2.1,v.2.2.2.2.1.2.2.2.1,v.2.2.2.2.1.2.2.2.2.1,v.2.2.2.2.2.1.1,v.2.2.2.2.2.1.2.1,v.2.2.2.2.2.2.2.1⟩
 fr:=λx=>(((),((),((),(x.sts,(x.l,(x.n,(x.i,()))))))),((x.nodes,(x.names,(x.mems,(x.outs,((x.nets_lo,x.nets_len,x.nets_cap),((),((),()))))))),((x.ln,(x.lp,())),(((),()),((x.model,(x.lnode,(x.lpin,(x.value,(x.other,()))))),((x.inn,(x.state,())),(((),((),())),(x.xs,()))))))))
structure q1X where(sts:List (Int))(nodes:List ((Int)×(List (Int))×(Int)×Int))(names:List (List UInt8))(mems:List ((List (Int))×(List (Int))×Int))(outs:List (Int))(nets_lo nets_len nets_cap:Nat)(ln lp model lnode lpin value other:Int)(inn state xs:List (Int))
def q1:Pt q1X where
 own:=[]
 t:=⟨[(0,.c (.ptr 0 0)),(3,.c (.ptr 4 0)),(4,.c (.ptr 5 0)),(5,.c (.arr (.int .i64)))],[.st [.arr (.pair (.int .u8) (.pair (.sl (.int .i64)) (.pair (.int .i64) (.int .i64)))),.arr .str,.arr (.pair (.sl (.int .i64)) (.pair (.sl (.int .i64)) (.int .i64))),.arr (.int .i64),.slc 6 0 1,.fn 150,.clo 152 [⟨1,0,0⟩,⟨2,0,0⟩]] 1 0,.st [.it .i64,.it .i64] 1 0,.st [.clo 128 [⟨3,0,0⟩]] 1 0,.st [.it .u8,.it .i64,.it .i64,.it .u8,.it .i64] 1 0,.st [.arr (.int .u8),.arr (.int .u8)] 1 0,.st [.junk,.junk] 1 0,.arr (.int .u8) 0]⟩
 to:=λv=>⟨v.1.2.2.2.1,v.2.1.1,v.2.1.2.1,v.2.1.2.2.1,v.2.1.2.2.2.1,v.2.1.2.2.2.2.1.1,v.2.1.2.2.2.2.1.2.1,v.2.1.2.2.2.2.1.2.2,v.2.2.1.1,v.2.2.1.2.1,v.2.2.2.2.1.1,v.2.2.2.2.1.2.1,v.2.2.2.2.1.2.2.1,v.2.2.2.2.1.2.2.2.1,v.2.2.2.2.1.2.2.2.2.1,v.2.2.2.2.2.1.1,v.2.2.2.2.2.1.2.1,v.2.2.2.2.2.2.2.1⟩
 fr:=λx=>(((),((),((),(x.sts,())))),((x.nodes,(x.names,(x.mems,(x.outs,((x.nets_lo,x.nets_len,x.nets_cap),((),((),()))))))),((x.ln,(x.lp,())),(((),()),((x.model,(x.lnode,(x.lpin,(x.value,(x.other,()))))),((x.inn,(x.state,())),(((),((),())),(x.xs,()))))))))
def s1(x:p1X):Option (p1X⊕q1X):=bif decide (x.i<x.n) then bif inR x.i x.l.length then bif inR x.i x.state.length then bif inR (x.l[x.i.toNat]?.getD 0) x.nets_len then bif decide (x.nets_lo+Int.toNat (x.l[x.i.toNat]?.getD 0)<x.xs.length) then some (Sum.inl ⟨x.sts,x.l,x.n,IntKind.i64.wrap (x.i+1),x.nodes,x.names,x.mems,x.outs,x.nets_lo,x.nets_len,x.nets_cap,x.ln,x.lp,x.model,x.lnode,x.lpin,x.value,x.other,x.inn,x.state,x.xs.set (x.nets_lo+Int.toNat (x.l[x.i.toNat]?.getD 0)) (x.state[x.i.toNat]?.getD 0)⟩) else none else none else none else none else some (Sum.inr ⟨x.sts,x.nodes,x.names,x.mems,x.outs,x.nets_lo,x.nets_len,x.nets_cap,x.ln,x.lp,x.model,x.lnode,x.lpin,x.value,x.other,x.inn,x.state,x.xs⟩)
theorem s1_eq(x:p1X):exec E2 189 (C90.Q0 1) 2 (p1.R x) (p1.H x) (QP 4 p1 (.exit 2) q1)=s1 x:=by kernel_rfl
def l1:QJ:=QQ 4 p1 (.exit 2) q1 s1
theorem tl1:QA (C90.Q0 1) 2=[]:=by kernel_rfl
theorem l1_ok  :QF Tryz.prog 189 none 4 (C90.Q0 1) l1:=QG mixed (Q4 ty_ok cl_ok _) (by trivial) (λ_=>rfl) (λ_=>rfl) (tl1▸Q7.nil) s1_eq
def E1:Env:=⟨ty,QE cl,Qi [(1,l1),(2,l2),(3,l3),(4,l4)],none⟩
structure p0X where(sts l:List (Int))(n i:Int)(nodes:List ((Int)×(List (Int))×(Int)×Int))(names:List (List UInt8))(mems:List ((List (Int))×(List (Int))×Int))(outs:List (Int))(nets_lo nets_len nets_cap:Nat)(ln lp model lnode lpin value other:Int)(inn state xs:List (Int))
def p0:Pt p0X where
 own:=[]
 t:=⟨[(0,.c (.ptr 0 0)),(3,.c (.ptr 4 0)),(4,.c (.ptr 5 0)),(5,.c (.arr (.int .i64))),(41,.c (.arr (.int .i64))),(42,.c (.it .i64)),(43,.c (.it .i64))],[.st [.arr (.pair (.int .u8) (.pair (.sl (.int .i64)) (.pair (.int .i64) (.int .i64)))),.arr .str,.arr (.pair (.sl (.int .i64)) (.pair (.sl (.int .i64)) (.int .i64))),.arr (.int .i64),.slc 6 0 1,.fn 150,.clo 152 [⟨1,0,0⟩,⟨2,0,0⟩]] 1 0,.st [.it .i64,.it .i64] 1 0,.st [.clo 128 [⟨3,0,0⟩]] 1 0,.st [.it .u8,.it .i64,.it .i64,.it .u8,.it .i64] 1 0,.st [.arr (.int .u8),.arr (.int .u8)] 1 0,.st [.junk,.junk] 1 0,.arr (.int .u8) 0]⟩
 to:=λv=>⟨v.1.2.2.2.1,v.1.2.2.2.2.1,v.1.2.2.2.2.2.1,v.1.2.2.2.2.2.2.1,v.2.1.1,v.2.1.2.1,v.2.1.2.2.1,v.2.1.2.2.2.1,v.2.1.2.2.2.2.1.1,v.2.1.2.2.2.2.1.2.1,v.2.1.2.2.2.2.1.2.2,v.2.2.1.1,v.2.2.1.2.1,v.2.2.2.2.1.1,v.2.2.2.2.1.2.1,v.2.2.2.2.1.2.2.1,v.2.2.2.2.1.2.2.2.1,v.2.2.2.2.1.2.2.2.2.1,v.2.2.2.2.2.1.1,v.2.2.2.2.2.1.2.1,v.2.2.2.2.2.2.2.1⟩
 fr:=λx=>(((),((),((),(x.sts,(x.l,(x.n,(x.i,()))))))),((x.nodes,(x.names,(x.mems,(x.outs,((x.nets_lo,x.nets_len,x.nets_cap),((),((),()))))))),((x.ln,(x.lp,())),(((),()),((x.model,(x.lnode,(x.lpin,(x.value,(x.other,()))))),((x.inn,(x.state,())),(((),((),())),(x.xs,()))))))))
structure q0X where(sts:List (Int))(nodes:List ((Int)×(List (Int))×(Int)×Int))(names:List (List UInt8))(mems:List ((List (Int))×(List (Int))×Int))(outs:List (Int))(nets_lo nets_len nets_cap:Nat)(ln lp model lnode lpin value other:Int)(inn state xs:List (Int))
def q0:Pt q0X where
 own:=[]
 t:=⟨[(0,.c (.ptr 0 0)),(3,.c (.ptr 4 0)),(4,.c (.ptr 5 0)),(5,.c (.arr (.int .i64)))],[.st [.arr (.pair (.int .u8) (.pair (.sl (.int .i64)) (.pair (.int .i64) (.int .i64)))),.arr .str,.arr (.pair (.sl (.int .i64)) (.pair (.sl (.int .i64)) (.int .i64))),.arr (.int .i64),.slc 6 0 1,.fn 150,.clo 152 [⟨1,0,0⟩,⟨2,0,0⟩]] 1 0,.st [.it .i64,.it .i64] 1 0,.st [.clo 128 [⟨3,0,0⟩]] 1 0,.st [.it .u8,.it .i64,.it .i64,.it .u8,.it .i64] 1 0,.st [.arr (.int .u8),.arr (.int .u8)] 1 0,.st [.junk,.junk] 1 0,.arr (.int .u8) 0]⟩
 to:=λv=>⟨v.1.2.2.2.1,v.2.1.1,v.2.1.2.1,v.2.1.2.2.1,v.2.1.2.2.2.1,v.2.1.2.2.2.2.1.1,v.2.1.2.2.2.2.1.2.1,v.2.1.2.2.2.2.1.2.2,v.2.2.1.1,v.2.2.1.2.1,v.2.2.2.2.1.1,v.2.2.2.2.1.2.1,v.2.2.2.2.1.2.2.1,v.2.2.2.2.1.2.2.2.1,v.2.2.2.2.1.2.2.2.2.1,v.2.2.2.2.2.1.1,v.2.2.2.2.2.1.2.1,v.2.2.2.2.2.2.2.1⟩
 fr:=λx=>(((),((),((),(x.sts,())))),((x.nodes,(x.names,(x.mems,(x.outs,((x.nets_lo,x.nets_len,x.nets_cap),((),((),()))))))),((x.ln,(x.lp,())),(((),()),((x.model,(x.lnode,(x.lpin,(x.value,(x.other,()))))),((x.inn,(x.state,())),(((),((),())),(x.xs,()))))))))
def s0(x:p0X):Option (p0X⊕q0X):=bif decide (x.i<x.n) then bif inR x.i x.l.length then bif inR x.i x.inn.length then bif inR (x.l[x.i.toNat]?.getD 0) x.nets_len then bif decide (x.nets_lo+Int.toNat (x.l[x.i.toNat]?.getD 0)<x.xs.length) then some (Sum.inl ⟨x.sts,x.l,x.n,IntKind.i64.wrap (x.i+1),x.nodes,x.names,x.mems,x.outs,x.nets_lo,x.nets_len,x.nets_cap,x.ln,x.lp,x.model,x.lnode,x.lpin,x.value,x.other,x.inn,x.state,x.xs.set (x.nets_lo+Int.toNat (x.l[x.i.toNat]?.getD 0)) (x.inn[x.i.toNat]?.getD 0)⟩) else none else none else none else none else some (Sum.inr ⟨x.sts,x.nodes,x.names,x.mems,x.outs,x.nets_lo,x.nets_len,x.nets_cap,x.ln,x.lp,x.model,x.lnode,x.lpin,x.value,x.other,x.inn,x.state,x.xs⟩)
theorem s0_eq(x:p0X):exec E1 189 (C90.Q0 0) 1 (p0.R x) (p0.H x) (QP 4 p0 (.exit 0) q0)=s0 x:=by kernel_rfl
def l0:QJ:=QQ 4 p0 (.exit 0) q0 s0
theorem tl0:QA (C90.Q0 0) 1=[]:=by kernel_rfl
theorem l0_ok  :QF Tryz.prog 189 none 4 (C90.Q0 0) l0:=QG mixed (Q4 ty_ok cl_ok _) (by trivial) (λ_=>rfl) (λ_=>rfl) (tl0▸Q7.nil) s0_eq
def E0:Env:=⟨ty,QE cl,Qi [(0,l0),(1,l1),(2,l2),(3,l3),(4,l4)],none⟩
def m(x:gX):Option fY:=bif decide (0<=(↑x.nodes.length:Int))&&decide ((↑x.nodes.length:Int)<=(↑x.nodes.length:Int))&&decide ((↑x.nodes.length:Int)*(↑1:Int)<=281474976710656)&&decide ((↑x.nodes.length:Int)<=9223372036854775807) then bindO (M36.m ⟨x.nodes,x.names,x.mems,x.outs⟩) λy=>bindO (M75.m ⟨x.nodes,x.names,x.mems,x.outs⟩) λy_1=>bindO (iter s0 ⟨y,y_1,(↑(List.length y_1):Int),0,x.nodes,x.names,x.mems,x.outs,0,(↑x.nodes.length:Int).toNat,(↑x.nodes.length:Int).toNat,x.ln,x.lp,x.model,x.lnode,x.lpin,x.value,x.other,x.inn,x.state,List.replicate (↑x.nodes.length:Int).toNat (0:Int)⟩) λy=>bindO (iter s1 ⟨y.sts,y.sts,(↑y.sts.length:Int),0,y.nodes,y.names,y.mems,y.outs,y.nets_lo,y.nets_len,y.nets_cap,y.ln,y.lp,y.model,y.lnode,y.lpin,y.value,y.other,y.inn,y.state,y.xs⟩) λy=>bindO (M40.m ⟨y.nodes,y.names,y.mems,y.outs⟩) λy_2=>bindO (iter s2 ⟨y.sts,y_2.1,(↑y_2.1.length:Int),0,y.nodes,y.names,y.mems,y.outs,y.nets_lo,y.nets_len,y.nets_cap,y.ln,y.lp,y.model,y.lnode,y.lpin,y.value,y.other,y.inn,y.state,y.xs⟩) λy=>bindO (iter s3 ⟨y.sts,y.outs,(↑y.outs.length:Int),0,y.nodes,y.names,y.mems,y.outs,y.nets_lo,y.nets_len,y.nets_cap,y.ln,y.lp,y.model,y.lnode,y.lpin,y.value,y.other,y.inn,y.state,y.xs,0,0,[]⟩) λy=>bindO (iter s4 ⟨y.sts,(↑y.sts.length:Int),0,y.nodes,y.names,y.mems,y.outs,y.nets_lo,y.nets_len,y.nets_cap,y.ln,y.lp,y.model,y.lnode,y.lpin,y.value,y.other,y.inn,y.state,y.xs,y.oa,0,0,[]⟩) λy=>bindO (M88.m ⟨y.oa⟩) λy_3=>bindO (M88.m ⟨y.ob⟩) λy_4=>some (y_3,y_4,y.nodes,y.names,y.mems,y.outs,y.nets_lo,y.nets_len,y.nets_cap,y.ln,y.lp,y.model,y.lnode,y.lpin,y.value,y.other,y.xs) else none
theorem m_eq(x:gX):exec E0 189 C90 0 (QD 0 (g.A x)) (g.H x) (finish 4 ty [.cell 4 77] f)=m x:=by kernel_rfl
theorem tl:QA C90 0=[(0,C90.Q0 0),(1,C90.Q0 1),(2,C90.Q0 2),(3,C90.Q0 3),(4,C90.Q0 4)]:=by kernel_rfl
theorem known:QB Tryz.prog 90 g f m:=
 Q5 mixed (Q4 ty_ok cl_ok _) s90 rfl rfl tl (Q7.cons rfl l0_ok (Q7.cons rfl l1_ok (Q7.cons rfl l2_ok (Q7.cons rfl l3_ok (Q7.cons rfl l4_ok Q7.nil))))) (λ_ _=>⟨rfl,rfl⟩) (λ_ _=>⟨rfl,rfl⟩) m_eq
def con:Con:=Km g [.arg 0 0,.cell 0 106,.cell 0 206,.cell 2 0] f m default
theorem con_ok:QC Tryz.prog 90 con:=Jn known
end M90b
end
