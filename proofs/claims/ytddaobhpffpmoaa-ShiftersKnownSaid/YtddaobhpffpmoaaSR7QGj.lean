/- A part of the proof. -/
import Derived.Test.YtddaobhpffpmoaaSR7QGa
import Derived.Test.YtddaobhpffpmoaaSR7QSyP
import Derived.Shelf.Strings.Builder1
import Derived.Shelf.Small.Strs
import Derived.Test.YtddaobhpffpmoaaProg
import Derived.WalkKit
import Derived.BigCall
set_option linter.all false
set_option maxRecDepth 1000000
set_option maxHeartbeats 4000000
namespace Go.Proofs.Ytddaobhpffpmoaa
section
open Go.Proofs
open Go.Shelf
def Try.Zc:Go.Shelf.Ren:=⟨fun|167=>82|240=>107|276=>112|n=>n,fun|70=>141|9=>9|0=>0|72=>143|37=>22|20=>20|75=>145|80=>147|164=>175|3=>3|4=>4|5=>5|n=>n,fun|n=>n⟩
theorem Try.lays167:Go.Proofs.Lays.n167 Try.prog Try.Zc:={
 mixed:=by kernel_rfl
 f167:=Try.func82.trans (congrArg some (by kernel_rfl))
 f240:=Try.func107.trans (congrArg some (by kernel_rfl))
 f276:=Try.func112.trans (congrArg some (by kernel_rfl))
 t0:=Try.underlying0
 a0:=Try.isAgg0
 z0:=Try.sizeOf0
 v0:=Try.zeroValue0
 t4:=Try.underlying4
 a4:=Try.isAgg4
 z4:=Try.sizeOf4
 v4:=Try.zeroValue4
 t5:=Try.underlying5
 a5:=Try.isAgg5
 z5:=Try.sizeOf5
 v5:=Try.zeroValue5
 t9:=Try.underlying9
 a9:=Try.isAgg9
 z9:=Try.sizeOf9
 v9:=Try.zeroValue9
 t20:=Try.underlying20
 a20:=Try.isAgg20
 z20:=Try.sizeOf20
 v20:=Try.zeroValue20
 t37:=Try.underlying22
 a37:=Try.isAgg22
 z37:=Try.sizeOf22
 v37:=Try.zeroValue22
 t70:=Try.underlying141
 a70:=Try.isAgg141
 z70:=Try.sizeOf141
 v70:=Try.zeroValue141
 t72:=Try.underlying143
 a72:=Try.isAgg143
 z72:=Try.sizeOf143
 v72:=Try.zeroValue143
 t75:=Try.underlying145
 a75:=Try.isAgg145
 z75:=Try.sizeOf145
 v75:=Try.zeroValue145
 t164:=Try.underlying175
 a164:=Try.isAgg175
 z164:=Try.sizeOf175
 v164:=Try.zeroValue175 }
theorem Try.XZ:Builder.Extra Try.prog Try.Zc:={
 sizeBuilder:=by kernel_rfl
 liesBuilder:=by kernel_rfl
 t5:=Try.underlying5
 a5:=Try.isAgg5
 z5:=Try.sizeOf5
 v5:=Try.zeroValue5
 infoByte:=by kernel_rfl
 cellsByte:=by kernel_rfl
 sizeByte:=by kernel_rfl
 neB5:=by decide }
def Try.Yi:Go.Shelf.Ren:=⟨fun|169=>83|n=>n,fun|70=>141|9=>9|0=>0|72=>143|37=>22|127=>171|3=>3|5=>5|n=>n,fun|n=>n⟩
theorem Try.lays169:Go.Proofs.Lays.n169 Try.prog Try.Yi:={
 mixed:=by kernel_rfl
 f169:=Try.func83.trans (congrArg some (by kernel_rfl))
 t0:=Try.underlying0
 a0:=Try.isAgg0
 z0:=Try.sizeOf0
 v0:=Try.zeroValue0
 t3:=Try.underlying3
 a3:=Try.isAgg3
 z3:=Try.sizeOf3
 v3:=Try.zeroValue3
 t9:=Try.underlying9
 a9:=Try.isAgg9
 z9:=Try.sizeOf9
 v9:=Try.zeroValue9
 t37:=Try.underlying22
 a37:=Try.isAgg22
 z37:=Try.sizeOf22
 v37:=Try.zeroValue22
 t70:=Try.underlying141
 a70:=Try.isAgg141
 z70:=Try.sizeOf141
 v70:=Try.zeroValue141
 t72:=Try.underlying143
 a72:=Try.isAgg143
 z72:=Try.sizeOf143
 v72:=Try.zeroValue143
 t127:=Try.underlying171
 a127:=Try.isAgg171
 z127:=Try.sizeOf171
 v127:=Try.zeroValue171 }
theorem Try.Wy:Builder.Extra Try.prog Try.Yi:={
 sizeBuilder:=by kernel_rfl
 liesBuilder:=by kernel_rfl
 t5:=Try.underlying5
 a5:=Try.isAgg5
 z5:=Try.sizeOf5
 v5:=Try.zeroValue5
 infoByte:=by kernel_rfl
 cellsByte:=by kernel_rfl
 sizeByte:=by kernel_rfl
 neB5:=by decide }
end
section
open Go.RowKit Go.Shelf
def BAt(B b:Nat)(bs:List Value)(w:World):Prop:=
 b<B/\B<=w.heap.size/\∃p v,(p=.pointer none\/p=.pointer (some ⟨b,0,none⟩))/\w.heap[b]? =some (.cells #[p,v] 143 (0,0))/\w.ownsRow B 5 1 v bs.length bs
structure Frm(B b:Nat)(w w':World):Prop where
 os:w'.os=w.os
 out:w'.output=w.output
 size:w.heap.size<=w'.heap.size
 block:∀k,k<B->k≠b->w'.heap[k]? =w.heap[k]?
theorem Frm.trans{B b:Nat}{w w1 w2:World}(h:Frm B b w w1)(h':Frm B b w1 w2):Frm B b w w2:=⟨h'.os.trans h.os,h'.out.trans h.out,Ao h.size h'.size,λk hk hb=>(h'.block k hk hb).trans (h.block k hk hb)⟩
theorem Frm.refl(B b:Nat)(w:World):Frm B b w w:=⟨rfl,rfl,A9 _,λ_ _ _=>rfl⟩
theorem Frm.cell{B b:Nat}{w w':World}(h:Frm B b w w'){p:Addr}(hp:p.block<B)(hn:p.block≠b):w'.cell? p=w.cell? p:=by unfold World.cell?;rw[h.block _ hp hn]
theorem own_low{w:World}{B B':Nat}{e:TypeId}{n:Nat}{v:Value}{xs:List Value}(h:w.ownsRow B e 1 v n xs)(hB:B'<=B):w.ownsRow B' e 1 v n xs:=by
 refine⟨h.1,?_⟩;rcases h.2 with h|⟨g,cap,cur,h1,h2,h3⟩
 ·exact .inl h
 ·exact .inr ⟨g,cap,cur,h1,Ao hB h2,h3⟩
theorem Kh{w:World}{B b:Nat}{e:TypeId}{n:Nat}{v:Value}{xs:List Value}(h:w.ownsRow B e 1 v n xs)(hb:b<B):v.ownBlock≠some b:=λhe=>by have:=(h.lt b he).1;omega
theorem BAt.builder{B b:Nat}{bs:List Value}{w:World}(h:BAt B b bs w):Lib.IsBuilder 143 5 b b bs w:=by
 obtain⟨h1,h0,p,v,hp,h2,h3⟩:=h;have h4:Lib.BuilderAt 143 5 b b p bs w:=⟨A9 _,v,h2,own_low h3 (by omega),Kh h3 h1⟩;rcases hp with rfl|rfl
 ·exact .inl h4
 ·exact .inr h4
theorem copyCheck(B b:Nat)(bs:List Value)(w:World)(h:BAt B b bs w):
  Calls Try.prog 107 #[.pointer (some ⟨b,0,none⟩)] w λe w'=>e=.returned (.tuple #[])/\(∃v,w'.heap[b]? =some (.cells #[.pointer (some ⟨b,0,none⟩),v] 143 (0,0))/\w'.ownsRow B 5 1 v bs.length bs)/\Frm B b w w':=by
 have hI:=h.builder;obtain⟨h1,h0,p,v,hp,h2,h3⟩:=h;rcases hp with rfl|rfl
 ·have h4:Lib.BuilderAt 143 5 b b (.pointer none) bs w:=⟨A9 _,v,h2,own_low h3 (by omega),Kh h3 h1⟩;refine(Any.Builder_copyCheck_fresh (ρ:=Try.Zc) { Try.lays167 with } Try.XZ.toX72 b w h4.cell0 h4.shape h4.frozen0).mono ?_;rintro e w' ⟨rfl,rfl⟩;refine⟨rfl,⟨v,?_,?_⟩,rfl,rfl,by simp[World.setCell],λk _ hk=>Below.heap_setCell _ _ _ _ hk⟩
  ·simp[World.setCell,Array.getElem?_modify,h2]
  ·exact h3.kept (row:=some b) ⟨rfl,rfl,rfl,by simp[World.setCell],λk _ hk=>Below.heap_setCell _ _ _ _ (λe=>hk (by simp[e]))⟩ (.inr (Kh h3 h1))
 ·have h4:Lib.BuilderAt 143 5 b b (.pointer (some ⟨b,0,none⟩)) bs w:=⟨A9 _,v,h2,own_low h3 (by omega),Kh h3 h1⟩;refine(Any.Builder_copyCheck_used (ρ:=Try.Zc) { Try.lays167 with } Try.XZ.toX72 b w h4.cell0).mono ?_;rintro e w' ⟨rfl,rfl⟩;exact⟨rfl,⟨v,h2,h3⟩,Frm.refl _ _ _⟩
theorem writeByte(B b:Nat)(bs:List Value)(c:Int)(w:World)(h:BAt B b bs w)(hlen:bs.length+1<=140737488355328):
  Calls Try.prog 82 #[.pointer (some ⟨b,0,none⟩),.int .u8 c] w λe w'=>e=.returned .nilIface/\BAt B b (bs++[.int .u8 c]) w'/\Frm B b w w':=by
 obtain⟨i0,hi,hz0,hz1,hz2⟩:=info_parts Try.XZ.infoByte;have hbB:=h.1;have hBw:=h.2.1
 go_enter Try.func82,Try.ntmps82
 go_wp2_with (go_at_call 107;refine(copyCheck B b bs _ h).mono ?_)
 rintro e w1 ⟨rfl,⟨v,hbk,hown⟩,hf1⟩;have hs1:=hf1.size;have c0:w1.cell? ⟨b,0,none⟩=some (.pointer (some ⟨b,0,none⟩)):=by rw[Lib.cell_of_heap hbk];rfl
 have c1:w1.cell? ⟨b,1,none⟩=some v:=by rw[Lib.cell_of_heap hbk];rfl
 go_wp2_with (at_builtin;refine CS _ rfl _ _ 22 rfl B 5 i0 (.int .u8 0) 1 1 Try.underlying22 hi hz0 hz1 hz2 rfl (by decide) _ _ _ rfl (hown.alloc _) ⟨w1.heap.size,0,none⟩ 1 1 [.int .u8 c] rfl rfl ?c1 ?c2 ?c3 ?c4 ?c5 ?_)
 case c1=>
  intro j u hj
  match j,hj with
  |0,hj=>simp at hj;subst hj;simp[Addr.add]
 case c2=>intro u hu;simp at hu;subst hu;rfl
 case c3=>unfold maxLen;omega
 case c4=>omega
 case c5=>simp;omega
 intro v' w2 hown' hgrow _;have hlt:b<w1.heap.size:=by omega
 have hvb:v.ownBlock≠some b:=Kh hown hbB;have hb2:w2.heap[b]? =some (.cells #[.pointer (some ⟨b,0,none⟩),v] 143 (0,0)):=by rw[hgrow.block b (by simp;omega) (λe=>hvb e.symm),Lib.alloc_old w1 _ b hlt];exact hbk
 have d0:w2.cell? ⟨b,0,none⟩=some (.pointer (some ⟨b,0,none⟩)):=by rw[Lib.cell_of_heap hb2];rfl
 have d1:w2.cell? ⟨b,1,none⟩=some v:=by rw[Lib.cell_of_heap hb2];rfl
 have f1:w2.frozen? ⟨b,1,none⟩=false:=Lib.frozen_of_heap hb2 1;obtain⟨g,cap,rfl⟩:∃g cap,v'=.slice (some ⟨g,0,none⟩) (bs.length+1) cap:=by
  rcases hown'.2 with ⟨_,h0⟩|⟨g,cap,cur,hv,_⟩
  ·omega
  ·exact⟨g,cap,hv⟩
 go_wp2
 go_ret
 have hsz2:=hgrow.size;have hsz2:w1.heap.size+1<=w2.heap.size:=by simpa using hsz2
 refine⟨rfl,⟨hbB,by simp[World.setCell];omega,_,.slice (some ⟨g,0,none⟩) (bs.length+1) cap,.inr rfl,?_,?_⟩,?_⟩
 ·simp[World.setCell,Array.getElem?_modify,hb2]
 ·have h9:w2.ownsRow B 5 1 (.slice (some ⟨g,0,none⟩) (bs.length+1) cap) (bs++[Value.int .u8 c]).length (bs++[Value.int .u8 c]):=(by simpa using hown');exact h9.kept (row:=some b) ⟨rfl,rfl,rfl,by simp[World.setCell],λk _ hk=>Below.heap_setCell _ _ _ _ (λe=>hk (congrArg some e))⟩ (.inr (Kh h9 hbB))
 ·refine hf1.trans ⟨hgrow.os,hgrow.output,by simp[World.setCell];omega,λk hk hkb=> ?_⟩;rw[Below.heap_setCell _ _ _ _ hkb,hgrow.block k (by simp;omega) (λe=>Kh hown hk e.symm),Lib.alloc_old w1 _ k (by omega)]
theorem stringAny(B b:Nat)(l:List UInt8)(w:World)(h:BAt B b (Lib.byteCells l) w):
  Calls Try.prog 83 #[.pointer (some ⟨b,0,none⟩)] w λe w'=>e=.returned (.string ⟨l.toArray⟩)/\Below b w w':=Any.Builder_String_any (ρ:=Try.Yi) Try.lays169 Try.Wy b b l w h.builder (Ao (Nat.le_of_lt h.1) h.2.1)
structure Bel(B:Nat)(w w':World):Prop where
 os:w'.os=w.os
 out:w'.output=w.output
 size:w.heap.size<=w'.heap.size
 block:∀k,k<B->w'.heap[k]? =w.heap[k]?
theorem Bel.of{B:Nat}{w w':World}(h:Below B w w'):Bel B w w':=⟨h.os,h.output,h.size,h.block⟩
theorem Bel.trans{B:Nat}{w w1 w2:World}(h:Bel B w w1)(h':Bel B w1 w2):Bel B w w2:=⟨h'.os.trans h.os,h'.out.trans h.out,Ao h.size h'.size,λk hk=>(h'.block k hk).trans (h.block k hk)⟩
theorem Bel.le{B B':Nat}{w w':World}(h:Bel B w w')(hB:B'<=B):Bel B' w w':=⟨h.os,h.out,h.size,λk hk=>h.block k (by omega)⟩
theorem Bel.cell{B:Nat}{w w':World}(h:Bel B w w'){p:Addr}(hp:p.block<B):w'.cell? p=w.cell? p:=by unfold World.cell?;rw[h.block _ hp]
theorem Frm.bel{B b B':Nat}{w w':World}(h:Frm B b w w')(h1:B'<=B)(h2:B'<=b):Bel B' w w':=⟨h.os,h.out,h.size,λk hk=>h.block k (by omega) (by omega)⟩
def Els(w:World)(a:Option Addr)(xs:List Int):Prop:=∀k (h:k<xs.length),∃b off,a=some ⟨b,off,none⟩/\b<w.heap.size/\w.cell? ⟨b,off+k,none⟩=some (.int .u8 xs[k])
theorem Els.bel{w w':World}{a:Option Addr}{xs:List Int}(h:Els w a xs)(hb:Bel w.heap.size w w'):Els w' a xs:=λk hk=>by obtain⟨b,off,h1,h2,h3⟩:=h k hk;exact⟨b,off,h1,AL h2 hb.size,(hb.cell (p:=⟨b,off+k,none⟩) h2).trans h3⟩
def UQ(l:List Int):List UInt8:=l.map λv=>UInt8.ofNat (48+v.toNat)
theorem chrs_snoc(l:List Int)(k:Nat)(h:k<l.length):UQ (l.take (k+1))=UQ (l.take k)++[UInt8.ofNat (48+l[k].toNat)]:=by unfold UQ;rw[List.take_succ_eq_append_getElem h,AZ];rfl
theorem Uk(l:List Int):(UQ l).length=l.length:=by unfold UQ;simp
theorem text_walk(w:World)(a:Option Addr)(m c:Nat)(n:Int)(xs:List Int)(vs:∀x∈xs,x=0\/x=1)(ls:xs.length<=1000000)
  (hbits:∀w1,Bel w.heap.size w w1->Calls Try.prog 34 #[.agg #[.int .i64 n,.slice a m c]] w1 λe w'=>(∃a' c',e=.returned (.slice a' xs.length c')/\Els w' a' xs)/\Bel w1.heap.size w1 w'):
  Calls Try.prog 32 #[.agg #[.int .i64 n,.slice a m c]] w λe w'=>e=.returned (.string ⟨(UQ xs).toArray⟩)/\Bel w.heap.size w w':=by
 have hb0:∀o o',Below w.heap.size w ((w.alloc o).alloc o'):=λo o'=>((Below.refl _ w).alloc (A9 _) o).alloc (by simp) o'
 go_enter Try.func32,Try.ntmps32
 go_wp2_with (go_at_call 34;refine(hbits _ (.of (hb0 _ _))).mono ?_)
 rintro e w1 ⟨⟨a',c',rfl,hels⟩,hb1⟩;have hsz0:w.heap.size+2<=w1.heap.size:=by simpa using hb1.size
 have hbx:w1.heap[w.heap.size+1]? =some (.cells #[.pointer none,.slice none 0 0] 143 (0,0)):=by rw[hb1.block _ (by simp)];have h0:=heap_alloc_new (w.alloc (.cells #[.int .i64 n,.slice a m c] 34)) (.cells #[.pointer none,.slice none 0 0] 143 (0,0));have h1:(w.alloc (.cells #[.int .i64 n,.slice a m c] 34)).heap.size=w.heap.size+1:=(by simp);rw[h1]at h0;exact h0
 have hB1:Bel w.heap.size w w1:=(Bel.of (hb0 _ _)).trans (hb1.le (by simp;omega));have hne:∀k (h:k<xs.length),∃ab off,a'=some ⟨ab,off,none⟩/\ab<w1.heap.size/\ab≠w.heap.size+1/\w1.cell? ⟨ab,off+k,none⟩=some (.int .u8 xs[k]):=λk hk=>by
  obtain⟨ab,off,h1,h2,h3⟩:=hels k hk;refine⟨ab,off,h1,h2,λe=> ?_,h3⟩;subst e;rw[Lib.cell_of_heap hbx]at h3
  match off+k,h3 with
  |0,h3=>cases h3
  |1,h3=>cases h3
 have hB0:BAt w1.heap.size (w.heap.size+1) (Lib.byteCells (UQ (xs.take 0))) w1:=⟨by omega,A9 _,_,_,.inl rfl,hbx,by simpa [UQ,Lib.byteCells] using CT _ _ _ _⟩
 go_wp2
 go_loopw [9] (λi wr=>∃k:Nat,k<=xs.length/\i=.int .i64 k/\BAt w1.heap.size (w.heap.size+1) (Lib.byteCells (UQ (xs.take k))) wr/\Frm w1.heap.size (w.heap.size+1) w1 wr)
  (λi _=>xs.length - (intOf i).toNat)
 case atStart=>exact⟨0,B4 _,rfl,hB0,Frm.refl _ _ _⟩
 case round=>
  obtain⟨k,hk,rfl,hI,hbw⟩:=hrel;have hsz:=hbw.size;by_cases hlt:k<xs.length
  ·obtain⟨ab,off,hai,hab,habn,hcell⟩:=hne k hlt;subst hai;have hcell:wr.cell? ⟨ab,off+k,none⟩=some (.int .u8 xs[k]):=(hbw.cell (p:=⟨ab,off+k,none⟩) hab habn).trans hcell;have hx0:UQ (xs.take (k+1))=UQ (xs.take k)++[UInt8.ofNat (48+xs[k].toNat)]:=chrs_snoc _ _ hlt;rcases vs xs[k] (AJ hlt) with e|e
   ·rw[e]at hcell hx0
    go_wp2_with (go_at_call 82;refine(writeByte w1.heap.size (w.heap.size+1) _ _ _ hI (by rw[Lib.byteCells_length,Uk];simp;omega)).mono ?_)
    rintro e' w2 ⟨rfl,hA,hb2⟩
    go_wp2
    go_roundw
    case rel=>refine⟨k+1,by omega,by simp,?_,hbw.trans hb2⟩;rw[hx0,Lib.byteCells_append];exact hA
    case measure=>simp[intOf];omega
   ·rw[e]at hcell hx0
    go_wp2_with (go_at_call 82;refine(writeByte w1.heap.size (w.heap.size+1) _ _ _ hI (by rw[Lib.byteCells_length,Uk];simp;omega)).mono ?_)
    rintro e' w2 ⟨rfl,hA,hb2⟩
    go_wp2
    go_roundw
    case rel=>refine⟨k+1,by omega,by simp,?_,hbw.trans hb2⟩;rw[hx0,Lib.byteCells_append];exact hA
    case measure=>simp[intOf];omega
  ·have hkn:k=xs.length:=(by omega);subst hkn;rw[Bj]at hI
   go_wp2_with (go_at_call 83;refine(stringAny w1.heap.size (w.heap.size+1) _ _ hI).mono ?_)
   rintro e' w3 ⟨rfl,hb4⟩
   go_wp2
   go_ret
   exact⟨rfl,hB1.trans ((hbw.bel (by omega) (by omega)).trans ((Bel.of hb4).le (by omega)))⟩
end
section
open Go.Abs Go.RowKit
namespace M32
structure gX where(n:Int)(w:List Int)
def g:Sg gX:=⟨[.agg [.it .i64,.arr (.int .u64)]],[],λa b=>⟨a.1.1,a.1.2.1⟩,λx=>((x.n,(x.w,())),()),λx=>()⟩
abbrev fY:=List UInt8
def f:Ft fY:=⟨none,.c .sg,[],λa b=>a,λy=>y,λy=>()⟩
def okS(l:List Int):Bool:=l.all (λv=>v==0||v==1)&&Nat.ble l.length 1000000
noncomputable def m(x:gX):Option fY:=bindO (M34.m ⟨x.n,x.w⟩) λl=>bif okS l then some (UQ l) else none
theorem callable32:Jq Try.prog 32:=⟨Try.f32,Try.func32,by kernel_rfl,by kernel_rfl⟩
theorem okS_ok{l:List Int}(h:okS l=true):(∀x∈l,x=0\/x=1)/\l.length<=1000000:=by unfold okS at h;rw[AC]at h;refine⟨λx hx=> ?_,Au h.2⟩;have:=Bk.1 h.1 x hx;simp only[By,beq_iff_eq]at this;omega
theorem Kl(xs:List Int):xs.flatMap (Ly.int .u8).trees=xs.map (T.int .u8):=by
 induction xs with
 |nil=>rfl
 |cons x xs ih=>rw[B5,ih];rfl
theorem ints_tree{U:Nat->Prop}{w:World}{xs:List Int}{v:Value}(h:TR U w (.imm (xs.flatMap (Ly.int .u8).trees) xs.length none) v):∃a c,v=.slice a xs.length c/\Els w a xs:=by
 rw[Kl]at h;generalize ht:T.imm (xs.map (T.int .u8)) xs.length none=t at h
 cases h with
 |imm0 cap' a c hc=>injection ht with h1 h2;have h3:xs=[]:=AN.1 h2;subst h3;exact⟨a,c,rfl,λk hk=>by simp at hk⟩
 |imm cs len cap' b off c f hb hr hc hle hcell ht'=>injection ht with h1 h2;subst h1;subst h2;refine⟨_,c,rfl,λk hk=>⟨b,off,rfl,hr.lt,?_⟩⟩;have hk':k<(xs.map (T.int .u8)).length:=(by simpa using hk);rw[hcell k hk'];have h5:=ht' k hk';simp only[AM]at h5;generalize f k=u at h5⊢;cases h5;rfl
 |_=>cases ht
theorem fn_bel{f:FuncId}{args:List AV}{v:AV}(hc:Jq Try.prog f)
  (h:∀ι w cargs,HR ι [] w->Ji ι w args cargs->∃cv,(∀w',VR ι w' v cv)/\Calls Try.prog f cargs w λe w'=>e=.returned cv/\Bel w.heap.size w w'):
  Qo Try.prog f args [] λu τ=>u=v/\τ=[]:=by
 refine⟨hc,fun ι w cargs _ hH ha=> ?_⟩;obtain⟨cv,hv,hcall⟩:=h ι w cargs hH ha;refine BN (Az.2 hcall) λe w' ⟨he,hb⟩=> ?_;have hs:Step ι [] w ι [] w':=⟨A9 _,hb.size,hb.os,hb.out,λid s h1=>⟨s,h1,A9 _,λ_=>rfl⟩,λid _ h1=>h1,λid s l h1 h2=>.inr ⟨id,s,l,h1,h2,rfl⟩,rfl,rfl,λb hr=>hb.block b (hH.resRow b hr).lt,λb h1 _=>hb.block b h1⟩;refine⟨v,[],ι,cv,he,⟨rfl,rfl⟩,hv w',⟨λid s h1=> ?_,hH.inj,λb hr=> ?_,hH.resNo⟩,hs⟩
 ·rw[hH.empty id]at h1;cases h1
 ·obtain⟨c,e,fr,h2⟩:=hH.resRow b hr;exact⟨c,e,fr,(hb.block b (WF.1 h2).1).trans h2⟩
theorem Ws{f:FuncId}{args:List AV}{v:AV}(h:Qo Try.prog f args [] λu τ=>u=v/\τ=[]){ι:Map}{w:World}{cargs:Array Value}(hH:HR ι [] w)(ha:Ji ι w args cargs){w1:World}(hb:Bel w.heap.size w w1)
  (hv:args.all AV.isT=true):Calls Try.prog f cargs w1 λe w'=>(∃I' cv,e=.returned cv/\VR I' w' v cv)/\Bel w1.heap.size w1 w':=by
 have hn:=hH.empty;have hmono:∀{t:T} {u:Value},TR ι.un w t u->TR ι.un w1 t u:=λh=>h.mono λb hu hr=>⟨hu,hb.block b hr.lt⟩;have hH1:HR ι [] w1:=⟨λid s h=>(by rw[hn]at h;cases h),hH.inj,λb hr=>by
  obtain⟨c,e,fr,h2⟩:=hH.resRow b hr;exact⟨c,e,fr,(hb.block b (WF.1 h2).1).trans h2⟩,hH.resNo⟩
 have hc:∀{c:Cell} {u:Value},c.isT=true->CR ι w c u->CR ι w1 c u:=λ{c u} hc h=>by
  cases c with
  |t x=>exact hmono h
  |_=>cases hc
 have ha1:Ji ι w1 args cargs:=⟨ha.1,λi hi=>by
  obtain⟨u,h1,h2⟩:=ha.2 i hi;refine⟨u,h1,?_⟩;have hT:args[i].isT=true:=Bk.1 hv _ (AJ hi);generalize args[i]=x at h2 hT⊢
  cases x with
  |c x=>exact hc hT h2
  |agg xs=>obtain⟨arr,e,h3,h4⟩:=h2;refine⟨arr,e,h3,λj hj=> ?_⟩;obtain⟨u',h5,h6⟩:=h4 j hj;exact⟨u',h5,hc (Bk.1 hT _ (AJ hj)) h6⟩
  |tup xs=>
   obtain⟨arr,e,h3,h4⟩:=h2;refine⟨arr,e,h3,λj hj=> ?_⟩;obtain⟨u',h5,h6⟩:=h4 j hj;refine⟨u',h5,?_⟩;have hj2:=Bk.1 hT _ (AJ hj);generalize xs[j]=y at h6 hj2⊢
   cases y with
   |inl y=>exact hc hj2 h6
   |inr ys=>
    obtain⟨arr',e',h7,h8⟩:=h6;refine⟨arr',e',h7,λl hl=> ?_⟩;obtain⟨u'',h9,h10⟩:=h8 l hl;exact⟨u'',h9,hc (Bk.1 hj2 _ (AJ hl)) h10⟩⟩
 refine Az.1 (BN (h.2 ι w1 cargs (λg c x h=>by cases h) hH1 ha1) λe w' ⟨v',A',I',cv,he,⟨h1,h2⟩,h3,h4,h5⟩=> ?_);subst h1;subst h2;refine⟨⟨I',cv,he,h3⟩,⟨h5.os,h5.out,h5.size,λb hb=> ?_⟩⟩;by_cases hr:ι.res b
 ·exact h5.resKeep b hr
 ·refine h5.frame b hb λhm=> ?_;rcases hm with ⟨id,s,l,h6,_⟩|hres
  ·rw[hn]at h6;cases h6
  ·exact hr hres
theorem words_slice{U:Nat->Prop}{w:World}{ts:List T}{n:Nat}{v:Value}(h:TR U w (.imm ts n none) v):∃a k c,v=.slice a k c:=by
 cases h with
 |imm0 cap' a c hc=>exact⟨a,0,c,rfl⟩
 |imm cs len cap' b off c f hb hr hc hle hcell ht'=>exact⟨_,_,c,rfl⟩
theorem arg_pat{ι:Map}{w:World}{n:Int}{l:List Int}{cargs:Array Value}(ha:Ji ι w [.agg [.t (.int .i64 n),.t (.imm (l.flatMap (Ly.int .u64).trees) l.length none)]] cargs):
  ∃a k c,cargs= #[.agg #[.int .i64 n,.slice a k c]]:=by
 obtain⟨hsz,ha⟩:=ha;obtain⟨u,e0,h0⟩:=ha 0 (by simp);have h0:Jj ι w [.t (.int .i64 n),.t (.imm (l.flatMap (Ly.int .u64).trees) l.length none)] u:=h0;obtain⟨arr,rfl,h1,h2⟩:=h0;obtain⟨u1,e1,g1⟩:=h2 0 (by simp);obtain⟨u2,e2,g2⟩:=h2 1 (by simp);have g1:TR ι.un w (.int .i64 n) u1:=g1;cases g1;obtain⟨a,k,c,rfl⟩:=words_slice (U:=ι.un) (w:=w) g2;refine⟨a,k,c,?_⟩;have ea:arr= #[.int .i64 n,.slice a k c]:=by
  refine Bt (by simpa using h1) λi hi _=> ?_;have hi:i<2:=by simpa [h1] using hi
  match i,hi with
  |0,_=>exact(WF.1 e1).2
  |1,_=>exact(WF.1 e2).2
 refine Bt (by simpa using hsz) λi hi _=> ?_;have hi:i<1:=by simpa [hsz] using hi
 match i,hi with
 |0,_=>rw[(WF.1 e0).2,ea];rfl
theorem known:QM Try.prog 32 g f m:=by
 refine⟨λ_ _=>⟨rfl,rfl⟩,by decide,λx y hy=> ?_⟩;obtain⟨n,l⟩:=x;unfold m at hy;obtain⟨e,he,hy⟩:=JN hy;have h34:Qo Try.prog 34 [.agg [.t (.int .i64 n),.t (.imm (l.flatMap (Ly.int .u64).trees) l.length none)]] [] λv τ=>v=.c (.t (.imm (e.flatMap (Ly.int .u8).trees) e.length none))/\τ=[]:=M34.known.ok ⟨n,l⟩ e he;show Qo Try.prog 32 [.agg [.t (.int .i64 n),.t (.imm (l.flatMap (Ly.int .u64).trees) l.length none)]] [] λv τ=>v=.c (.t (.str y))/\τ=[];refine fn_bel callable32 fun ι w cargs hH ha=> ?_;obtain⟨a,k,c,rfl⟩:=arg_pat ha
 have hbits:∀w1,Bel w.heap.size w w1->Calls Try.prog 34 #[.agg #[.int .i64 n,.slice a k c]] w1 λe' w'=>(∃a' c',e'=.returned (.slice a' e.length c')/\Els w' a' e)/\Bel w1.heap.size w1 w':=λw1 hb=>
  (Ws h34 hH ha hb rfl).mono λe' w' ⟨⟨I',cv,h1,h2⟩,h3⟩=>by obtain⟨a',c',rfl,h4⟩:=ints_tree (U:=I'.un) (w:=w') (xs:=e) h2;exact⟨⟨a',c',h1,h4⟩,h3⟩
 refine⟨.string ⟨y.toArray⟩,λw'=>.str y,?_⟩
 cases hk:okS e with
 |false=>rw[hk]at hy;cases hy
 |true=>rw[hk]at hy;cases hy;obtain⟨v1,l1⟩:=okS_ok hk;exact text_walk w a k c n e v1 l1 hbits
noncomputable def con:Con:=J9 g f m default
theorem con_ok:QR Try.prog 32 con:=QG known (λ_=>rfl) rfl
end M32
end
