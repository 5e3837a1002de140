/-
  What the proof stands on.
-/
import Derived.Test.YtddaobhpffpmoaaSR1QGa
import Derived.Test.YtddaobhpffpmoaaSR1QSyP
import Derived.Shelf.Strings.Builder1
import Derived.Shelf.Small.Strs
import Derived.Test.YtddaobhpffpmoaaProg
import Derived.WalkKit
import Derived.BigCall
set_option linter.all false
namespace Go.Proofs.Ytddaobhpffpmoaa
open Go.Proofs
open Go.Shelf
def Try.lays167_ren:Go.Shelf.Ren:=⟨fun|167=>82|240=>107|276=>112|n=>n,fun|70=>141|9=>9|0=>0|72=>143|37=>22|20=>20|75=>145|80=>147|164=>175|3=>3|4=>4|5=>5|n=>n,fun|n=>n⟩
theorem Try.lays167:Go.Proofs.Lays.n167 Try.prog Try.lays167_ren:={
 mixed:=by kernel_rfl
 f167:=Try.func82.trans (congrArg some (by kernel_rfl))
 f240:=Try.func107.trans (congrArg some (by kernel_rfl))
 f276:=Try.func112.trans (congrArg some (by kernel_rfl))
 t0:=Try.underlying0
 a0:=Try.isAgg0
 z0:=Try.sizeOf0
 v0:=Try.zeroValue0
 t4:=Try.underlying4
 a4:=Try.isAgg4
 z4:=Try.sizeOf4
 v4:=Try.zeroValue4
 t5:=Try.underlying5
 a5:=Try.isAgg5
 z5:=Try.sizeOf5
 v5:=Try.zeroValue5
 t9:=Try.underlying9
 a9:=Try.isAgg9
 z9:=Try.sizeOf9
 v9:=Try.zeroValue9
 t20:=Try.underlying20
 a20:=Try.isAgg20
 z20:=Try.sizeOf20
 v20:=Try.zeroValue20
 t37:=Try.underlying22
 a37:=Try.isAgg22
 z37:=Try.sizeOf22
 v37:=Try.zeroValue22
 t70:=Try.underlying141
 a70:=Try.isAgg141
 z70:=Try.sizeOf141
 v70:=Try.zeroValue141
 t72:=Try.underlying143
 a72:=Try.isAgg143
 z72:=Try.sizeOf143
 v72:=Try.zeroValue143
 t75:=Try.underlying145
 a75:=Try.isAgg145
 z75:=Try.sizeOf145
 v75:=Try.zeroValue145
 t164:=Try.underlying175
 a164:=Try.isAgg175
 z164:=Try.sizeOf175
 v164:=Try.zeroValue175 }
theorem Try.Builder_Extra_167:Builder.Extra Try.prog Try.lays167_ren:={
 sizeBuilder:=by kernel_rfl
 liesBuilder:=by kernel_rfl
 t5:=Try.underlying5
 a5:=Try.isAgg5
 z5:=Try.sizeOf5
 v5:=Try.zeroValue5
 infoByte:=by kernel_rfl
 cellsByte:=by kernel_rfl
 sizeByte:=by kernel_rfl
 neB5:=by decide }
def Try.lays169_ren:Go.Shelf.Ren:=⟨fun|169=>83|n=>n,fun|70=>141|9=>9|0=>0|72=>143|37=>22|127=>171|3=>3|5=>5|n=>n,fun|n=>n⟩
theorem Try.lays169:Go.Proofs.Lays.n169 Try.prog Try.lays169_ren:={
 mixed:=by kernel_rfl
 f169:=Try.func83.trans (congrArg some (by kernel_rfl))
 t0:=Try.underlying0
 a0:=Try.isAgg0
 z0:=Try.sizeOf0
 v0:=Try.zeroValue0
 t3:=Try.underlying3
 a3:=Try.isAgg3
 z3:=Try.sizeOf3
 v3:=Try.zeroValue3
 t9:=Try.underlying9
 a9:=Try.isAgg9
 z9:=Try.sizeOf9
 v9:=Try.zeroValue9
 t37:=Try.underlying22
 a37:=Try.isAgg22
 z37:=Try.sizeOf22
 v37:=Try.zeroValue22
 t70:=Try.underlying141
 a70:=Try.isAgg141
 z70:=Try.sizeOf141
 v70:=Try.zeroValue141
 t72:=Try.underlying143
 a72:=Try.isAgg143
 z72:=Try.sizeOf143
 v72:=Try.zeroValue143
 t127:=Try.underlying171
 a127:=Try.isAgg171
 z127:=Try.sizeOf171
 v127:=Try.zeroValue171 }
theorem Try.Builder_Extra_169:Builder.Extra Try.prog Try.lays169_ren:={
 sizeBuilder:=by kernel_rfl
 liesBuilder:=by kernel_rfl
 t5:=Try.underlying5
 a5:=Try.isAgg5
 z5:=Try.sizeOf5
 v5:=Try.zeroValue5
 infoByte:=by kernel_rfl
 cellsByte:=by kernel_rfl
 sizeByte:=by kernel_rfl
 neB5:=by decide }
end Go.Proofs.Ytddaobhpffpmoaa
namespace Go.Proofs.Ytddaobhpffpmoaa
open Go.RowKit Go.Shelf
def BAt(B b:Nat)(bs:List Value)(w:World):Prop:=
 b<B∧B≤w.heap.size∧∃p v,(p=.pointer none∨p=.pointer (some ⟨b,0,none⟩))∧w.heap[b]? =some (.cells #[p,v] 143 (0,0))∧w.ownsRow B 5 1 v bs.length bs
structure Frm(B b:Nat)(w w':World):Prop where
 os:w'.os=w.os
 out:w'.output=w.output
 size:w.heap.size≤w'.heap.size
 block:∀k,k<B→k≠b→w'.heap[k]? =w.heap[k]?
theorem Frm.trans{B b:Nat}{w w1 w2:World}(h:Frm B b w w1)(h':Frm B b w1 w2):Frm B b w w2:=⟨h'.os.trans h.os,h'.out.trans h.out,Nat.le_trans h.size h'.size,fun k hk hb=>(h'.block k hk hb).trans (h.block k hk hb)⟩
theorem Frm.refl(B b:Nat)(w:World):Frm B b w w:=⟨rfl,rfl,Nat.le_refl _,fun _ _ _=>rfl⟩
theorem Frm.cell{B b:Nat}{w w':World}(h:Frm B b w w'){p:Addr}(hp:p.block<B)(hn:p.block≠b):w'.cell? p=w.cell? p:=by
 unfold World.cell?
 rw[h.block _ hp hn]
theorem own_low{w:World}{B B':Nat}{e:TypeId}{n:Nat}{v:Value}{xs:List Value}(h:w.ownsRow B e 1 v n xs)(hB:B'≤B):w.ownsRow B' e 1 v n xs:=by
 refine⟨h.1,?_⟩
 rcases h.2 with h|⟨g,cap,cur,h1,h2,h3⟩
 ·exact .inl h
 ·exact .inr ⟨g,cap,cur,h1,Nat.le_trans hB h2,h3⟩
theorem own_ne{w:World}{B b:Nat}{e:TypeId}{n:Nat}{v:Value}{xs:List Value}(h:w.ownsRow B e 1 v n xs)(hb:b<B):v.ownBlock≠some b:=fun he=>by
 have:=(h.lt b he).1
 omega
theorem BAt.builder{B b:Nat}{bs:List Value}{w:World}(h:BAt B b bs w):Lib.IsBuilder 143 5 b b bs w:=by
 obtain⟨h1,h0,p,v,hp,h2,h3⟩:=h
 have h4:Lib.BuilderAt 143 5 b b p bs w:=⟨Nat.le_refl _,v,h2,own_low h3 (by omega),own_ne h3 h1⟩
 rcases hp with rfl|rfl
 ·exact .inl h4
 ·exact .inr h4
theorem copyCheck(B b:Nat)(bs:List Value)(w:World)(h:BAt B b bs w):
  Calls Try.prog 107 #[.pointer (some ⟨b,0,none⟩)] w fun e w'=>e=.returned (.tuple #[])∧(∃v,w'.heap[b]? =some (.cells #[.pointer (some ⟨b,0,none⟩),v] 143 (0,0))∧w'.ownsRow B 5 1 v bs.length bs)∧Frm B b w w':=by
 have hI:=h.builder
 obtain⟨h1,h0,p,v,hp,h2,h3⟩:=h
 rcases hp with rfl|rfl
 ·have h4:Lib.BuilderAt 143 5 b b (.pointer none) bs w:=⟨Nat.le_refl _,v,h2,own_low h3 (by omega),own_ne h3 h1⟩
  refine(Any.Builder_copyCheck_fresh (ρ:=Try.lays167_ren) { Try.lays167 with } Try.Builder_Extra_167.toX72 b w h4.cell0 h4.shape h4.frozen0).mono ?_
  rintro e w' ⟨rfl,rfl⟩
  refine⟨rfl,⟨v,?_,?_⟩,rfl,rfl,by simp[World.setCell],fun k _ hk=>Below.heap_setCell _ _ _ _ hk⟩
  ·simp[World.setCell,Array.getElem?_modify,h2]
  ·exact h3.kept (row:=some b) ⟨rfl,rfl,rfl,by simp[World.setCell],fun k _ hk=>Below.heap_setCell _ _ _ _ (fun e=>hk (by simp[e]))⟩ (.inr (own_ne h3 h1))
 ·have h4:Lib.BuilderAt 143 5 b b (.pointer (some ⟨b,0,none⟩)) bs w:=⟨Nat.le_refl _,v,h2,own_low h3 (by omega),own_ne h3 h1⟩
  refine(Any.Builder_copyCheck_used (ρ:=Try.lays167_ren) { Try.lays167 with } Try.Builder_Extra_167.toX72 b w h4.cell0).mono ?_
  rintro e w' ⟨rfl,rfl⟩
  exact⟨rfl,⟨v,h2,h3⟩,Frm.refl _ _ _⟩
set_option maxHeartbeats 2000000 in
set_option maxRecDepth 100000 in
theorem writeByte(B b:Nat)(bs:List Value)(c:Int)(w:World)(h:BAt B b bs w)(hlen:bs.length+1≤140737488355328):
  Calls Try.prog 82 #[.pointer (some ⟨b,0,none⟩),.int .u8 c] w fun e w'=>e=.returned .nilIface∧BAt B b (bs++[.int .u8 c]) w'∧Frm B b w w':=by
 obtain⟨i0,hi,hz0,hz1,hz2⟩:=info_parts Try.Builder_Extra_167.infoByte
 have hbB:=h.1
 have hBw:=h.2.1
 go_enter Try.func82,Try.ntmps82
 go_wp2_with (go_at_call 107;refine(copyCheck B b bs _ h).mono ?_)
 rintro e w1 ⟨rfl,⟨v,hbk,hown⟩,hf1⟩
 have hs1:=hf1.size
 have c0:w1.cell? ⟨b,0,none⟩=some (.pointer (some ⟨b,0,none⟩)):=by rw[Lib.cell_of_heap hbk];rfl
 have c1:w1.cell? ⟨b,1,none⟩=some v:=by rw[Lib.cell_of_heap hbk];rfl
 go_wp2_with (at_builtin;refine wpList_append_own _ rfl _ _ 22 rfl B 5 i0 (.int .u8 0) 1 1 Try.underlying22 hi hz0 hz1 hz2 rfl (by decide) _ _ _ rfl (hown.alloc _) ⟨w1.heap.size,0,none⟩ 1 1 [.int .u8 c] rfl rfl ?c1 ?c2 ?c3 ?c4 ?c5 ?_)
 case c1=>
  intro j u hj
  match j,hj with
  |0,hj=>simp at hj;subst hj;simp[Addr.add]
 case c2=>intro u hu;simp at hu;subst hu;rfl
 case c3=>unfold maxLen;omega
 case c4=>omega
 case c5=>simp;omega
 intro v' w2 hown' hgrow _
 have hlt:b<w1.heap.size:=by omega
 have hvb:v.ownBlock≠some b:=own_ne hown hbB
 have hb2:w2.heap[b]? =some (.cells #[.pointer (some ⟨b,0,none⟩),v] 143 (0,0)):=by
  rw[hgrow.block b (by simp;omega) (fun e=>hvb e.symm),Lib.alloc_old w1 _ b hlt]
  exact hbk
 have d0:w2.cell? ⟨b,0,none⟩=some (.pointer (some ⟨b,0,none⟩)):=by rw[Lib.cell_of_heap hb2];rfl
 have d1:w2.cell? ⟨b,1,none⟩=some v:=by rw[Lib.cell_of_heap hb2];rfl
 have f1:w2.frozen? ⟨b,1,none⟩=false:=Lib.frozen_of_heap hb2 1
 obtain⟨g,cap,rfl⟩:∃g cap,v'=.slice (some ⟨g,0,none⟩) (bs.length+1) cap:=by
  rcases hown'.2 with ⟨_,h0⟩|⟨g,cap,cur,hv,_⟩
  ·omega
  ·exact⟨g,cap,hv⟩
 go_wp2
 go_ret
 have hsz2:=hgrow.size
 have hsz2:w1.heap.size+1≤w2.heap.size:=by simpa using hsz2
 refine⟨rfl,⟨hbB,by simp[World.setCell];omega,_,.slice (some ⟨g,0,none⟩) (bs.length+1) cap,.inr rfl,?_,?_⟩,?_⟩
 ·simp[World.setCell,Array.getElem?_modify,hb2]
 ·have h9:w2.ownsRow B 5 1 (.slice (some ⟨g,0,none⟩) (bs.length+1) cap) (bs++[Value.int .u8 c]).length (bs++[Value.int .u8 c]):=by simpa using hown'
  exact h9.kept (row:=some b) ⟨rfl,rfl,rfl,by simp[World.setCell],fun k _ hk=>Below.heap_setCell _ _ _ _ (fun e=>hk (congrArg some e))⟩ (.inr (own_ne h9 hbB))
 ·refine hf1.trans ⟨hgrow.os,hgrow.output,by simp[World.setCell];omega,fun k hk hkb=> ?_⟩
  rw[Below.heap_setCell _ _ _ _ hkb,hgrow.block k (by simp;omega) (fun e=>own_ne hown hk e.symm),Lib.alloc_old w1 _ k (by omega)]
theorem stringAny(B b:Nat)(l:List UInt8)(w:World)(h:BAt B b (Lib.byteCells l) w):
  Calls Try.prog 83 #[.pointer (some ⟨b,0,none⟩)] w fun e w'=>e=.returned (.string ⟨l.toArray⟩)∧Below b w w':=Any.Builder_String_any (ρ:=Try.lays169_ren) Try.lays169 Try.Builder_Extra_169 b b l w h.builder (Nat.le_trans (Nat.le_of_lt h.1) h.2.1)
structure Bel(B:Nat)(w w':World):Prop where
 os:w'.os=w.os
 out:w'.output=w.output
 size:w.heap.size≤w'.heap.size
 block:∀k,k<B→w'.heap[k]? =w.heap[k]?
theorem Bel.of{B:Nat}{w w':World}(h:Below B w w'):Bel B w w':=⟨h.os,h.output,h.size,h.block⟩
theorem Bel.trans{B:Nat}{w w1 w2:World}(h:Bel B w w1)(h':Bel B w1 w2):Bel B w w2:=⟨h'.os.trans h.os,h'.out.trans h.out,Nat.le_trans h.size h'.size,fun k hk=>(h'.block k hk).trans (h.block k hk)⟩
theorem Bel.le{B B':Nat}{w w':World}(h:Bel B w w')(hB:B'≤B):Bel B' w w':=⟨h.os,h.out,h.size,fun k hk=>h.block k (by omega)⟩
theorem Bel.cell{B:Nat}{w w':World}(h:Bel B w w'){p:Addr}(hp:p.block<B):w'.cell? p=w.cell? p:=by
 unfold World.cell?
 rw[h.block _ hp]
theorem Frm.bel{B b B':Nat}{w w':World}(h:Frm B b w w')(h1:B'≤B)(h2:B'≤b):Bel B' w w':=⟨h.os,h.out,h.size,fun k hk=>h.block k (by omega) (by omega)⟩
def Els(w:World)(a:Option Addr)(xs:List Int):Prop:=∀k (h:k<xs.length),∃b off,a=some ⟨b,off,none⟩∧b<w.heap.size∧w.cell? ⟨b,off+k,none⟩=some (.int .u8 xs[k])
theorem Els.bel{w w':World}{a:Option Addr}{xs:List Int}(h:Els w a xs)(hb:Bel w.heap.size w w'):Els w' a xs:=fun k hk=>by
 obtain⟨b,off,h1,h2,h3⟩:=h k hk
 exact⟨b,off,h1,Nat.lt_of_lt_of_le h2 hb.size,(hb.cell (p:=⟨b,off+k,none⟩) h2).trans h3⟩
def chrs(l:List Int):List UInt8:=l.map fun v=>UInt8.ofNat (48+v.toNat)
theorem chrs_snoc(l:List Int)(k:Nat)(h:k<l.length):chrs (l.take (k+1))=chrs (l.take k)++[UInt8.ofNat (48+l[k].toNat)]:=by
 unfold chrs
 rw[List.take_succ_eq_append_getElem h,List.map_append]
 rfl
theorem chrs_length(l:List Int):(chrs l).length=l.length:=by unfold chrs;simp
set_option maxHeartbeats 4000000 in
set_option maxRecDepth 1000000 in
theorem text_walk(w:World)(a:Option Addr)(m c:Nat)(n:Int)(xs:List Int)(vs:∀x∈xs,x=0∨x=1)(ls:xs.length≤1000000)
  (hbits:∀w1,Bel w.heap.size w w1→Calls Try.prog 34 #[.agg #[.int .i64 n,.slice a m c]] w1 fun e w'=>(∃a' c',e=.returned (.slice a' xs.length c')∧Els w' a' xs)∧Bel w1.heap.size w1 w'):
  Calls Try.prog 32 #[.agg #[.int .i64 n,.slice a m c]] w fun e w'=>e=.returned (.string ⟨(chrs xs).toArray⟩)∧Bel w.heap.size w w':=by
 have hb0:∀o o',Below w.heap.size w ((w.alloc o).alloc o'):=fun o o'=>((Below.refl _ w).alloc (Nat.le_refl _) o).alloc (by simp) o'
 go_enter Try.func32,Try.ntmps32
 go_wp2_with (go_at_call 34;refine(hbits _ (.of (hb0 _ _))).mono ?_)
 rintro e w1 ⟨⟨a',c',rfl,hels⟩,hb1⟩
 have hsz0:w.heap.size+2≤w1.heap.size:=by simpa using hb1.size
 have hbx:w1.heap[w.heap.size+1]? =some (.cells #[.pointer none,.slice none 0 0] 143 (0,0)):=by
  rw[hb1.block _ (by simp)]
  have h0:=heap_alloc_new (w.alloc (.cells #[.int .i64 n,.slice a m c] 34)) (.cells #[.pointer none,.slice none 0 0] 143 (0,0))
  have h1:(w.alloc (.cells #[.int .i64 n,.slice a m c] 34)).heap.size=w.heap.size+1:=by simp
  rw[h1]at h0
  exact h0
 have hB1:Bel w.heap.size w w1:=(Bel.of (hb0 _ _)).trans (hb1.le (by simp;omega))
 have hne:∀k (h:k<xs.length),∃ab off,a'=some ⟨ab,off,none⟩∧ab<w1.heap.size∧ab≠w.heap.size+1∧w1.cell? ⟨ab,off+k,none⟩=some (.int .u8 xs[k]):=fun k hk=>by
  obtain⟨ab,off,h1,h2,h3⟩:=hels k hk
  refine⟨ab,off,h1,h2,fun e=> ?_,h3⟩
  subst e
  rw[Lib.cell_of_heap hbx]at h3
  match off+k,h3 with
  |0,h3=>cases h3
  |1,h3=>cases h3
 have hB0:BAt w1.heap.size (w.heap.size+1) (Lib.byteCells (chrs (xs.take 0))) w1:=⟨by omega,Nat.le_refl _,_,_,.inl rfl,hbx,by simpa [chrs,Lib.byteCells] using World.ownsRow_nil _ _ _ _⟩
 go_wp2
 go_loopw [9] (fun i wr=>∃k:Nat,k≤xs.length∧i=.int .i64 k∧BAt w1.heap.size (w.heap.size+1) (Lib.byteCells (chrs (xs.take k))) wr∧Frm w1.heap.size (w.heap.size+1) w1 wr)
  (fun i _=>xs.length - (intOf i).toNat)
 case atStart=>exact⟨0,Nat.zero_le _,rfl,hB0,Frm.refl _ _ _⟩
 case round=>
  obtain⟨k,hk,rfl,hI,hbw⟩:=hrel
  have hsz:=hbw.size
  by_cases hlt:k<xs.length
  ·obtain⟨ab,off,hai,hab,habn,hcell⟩:=hne k hlt
   subst hai
   have hcell:wr.cell? ⟨ab,off+k,none⟩=some (.int .u8 xs[k]):=(hbw.cell (p:=⟨ab,off+k,none⟩) hab habn).trans hcell
   have hx0:chrs (xs.take (k+1))=chrs (xs.take k)++[UInt8.ofNat (48+xs[k].toNat)]:=chrs_snoc _ _ hlt
   rcases vs xs[k] (List.getElem_mem hlt) with e|e
   ·rw[e]at hcell hx0
    go_wp2_with (go_at_call 82;refine(writeByte w1.heap.size (w.heap.size+1) _ _ _ hI (by rw[Lib.byteCells_length,chrs_length];simp;omega)).mono ?_)
    rintro e' w2 ⟨rfl,hA,hb2⟩
    go_wp2
    go_roundw
    case rel=>
     refine⟨k+1,by omega,by simp,?_,hbw.trans hb2⟩
     rw[hx0,Lib.byteCells_append]
     exact hA
    case measure=>simp[intOf];omega
   ·rw[e]at hcell hx0
    go_wp2_with (go_at_call 82;refine(writeByte w1.heap.size (w.heap.size+1) _ _ _ hI (by rw[Lib.byteCells_length,chrs_length];simp;omega)).mono ?_)
    rintro e' w2 ⟨rfl,hA,hb2⟩
    go_wp2
    go_roundw
    case rel=>
     refine⟨k+1,by omega,by simp,?_,hbw.trans hb2⟩
     rw[hx0,Lib.byteCells_append]
     exact hA
    case measure=>simp[intOf];omega
  ·have hkn:k=xs.length:=by omega
   subst hkn
   rw[List.take_length]at hI
   go_wp2_with (go_at_call 83;refine(stringAny w1.heap.size (w.heap.size+1) _ _ hI).mono ?_)
   rintro e' w3 ⟨rfl,hb4⟩
   go_wp2
   go_ret
   exact⟨rfl,hB1.trans ((hbw.bel (by omega) (by omega)).trans ((Bel.of hb4).le (by omega)))⟩
end Go.Proofs.Ytddaobhpffpmoaa
namespace Go.Proofs.Ytddaobhpffpmoaa
open Go.Abs Go.RowKit
namespace M32
structure gX where
 n:Int
 w:List Int
def g:Sg gX where
 vs:=[.agg [.it .i64,.arr (.int .u64)]]
 h:=[]
 to:=fun a b=>⟨a.1.1,a.1.2.1⟩
 fa:=fun x=>((x.n,(x.w,())),())
 fh:=fun x=>()
abbrev fY:=List UInt8
def f:Ft fY where
 ord:=none
 sh:=.c .sg
 h:=[]
 to:=fun a b=>a
 fv:=fun y=>y
 fh:=fun y=>()
def okS(l:List Int):Bool:=l.all (fun v=>v==0||v==1)&&Nat.ble l.length 1000000
noncomputable def m(x:gX):Option fY:=bindO (M34.m ⟨x.n,x.w⟩) fun l=>bif okS l then some (chrs l) else none
theorem callable32:callable Try.prog 32:=⟨Try.f32,Try.func32,by kernel_rfl,by kernel_rfl⟩
theorem okS_ok{l:List Int}(h:okS l=true):(∀x∈l,x=0∨x=1)∧l.length≤1000000:=by
 unfold okS at h
 rw[Bool.and_eq_true]at h
 refine⟨fun x hx=> ?_,Nat.le_of_ble_eq_true h.2⟩
 have:=List.all_eq_true.1 h.1 x hx
 simp only[Bool.or_eq_true,beq_iff_eq]at this
 omega
theorem ints_trees(xs:List Int):xs.flatMap (Ly.int .u8).trees=xs.map (T.int .u8):=by
 induction xs with
 |nil=>rfl
 |cons x xs ih=>rw[List.flatMap_cons,ih];rfl
theorem ints_tree{U:Nat→Prop}{w:World}{xs:List Int}{v:Value}(h:TR U w (.imm (xs.flatMap (Ly.int .u8).trees) xs.length none) v):∃a c,v=.slice a xs.length c∧Els w a xs:=by
 rw[ints_trees]at h
 generalize ht:T.imm (xs.map (T.int .u8)) xs.length none=t at h
 cases h with
 |imm0 cap' a c hc=>
  injection ht with h1 h2
  have h3:xs=[]:=List.length_eq_zero_iff.1 h2
  subst h3
  exact⟨a,c,rfl,fun k hk=>by simp at hk⟩
 |imm cs len cap' b off c f hb hr hc hle hcell ht'=>
  injection ht with h1 h2
  subst h1;subst h2
  refine⟨_,c,rfl,fun k hk=>⟨b,off,rfl,hr.lt,?_⟩⟩
  have hk':k<(xs.map (T.int .u8)).length:=by simpa using hk
  rw[hcell k hk']
  have h5:=ht' k hk'
  simp only[List.getElem_map]at h5
  generalize f k=u at h5⊢
  cases h5
  rfl
 |_=>cases ht
theorem fn_bel{f:FuncId}{args:List AV}{v:AV}(hc:callable Try.prog f)
  (h:∀ι w cargs,HR ι [] w→argsR ι w args cargs→∃cv,(∀w',VR ι w' v cv)∧Calls Try.prog f cargs w fun e w'=>e=.returned cv∧Bel w.heap.size w w'):
  FnOk Try.prog f args [] fun u τ=>u=v∧τ=[]:=by
 refine⟨hc,fun ι w cargs _ hH ha=> ?_⟩
 obtain⟨cv,hv,hcall⟩:=h ι w cargs hH ha
 refine CallsIn.mono (callsIn_wide.2 hcall) fun e w' ⟨he,hb⟩=> ?_
 have hs:Step ι [] w ι [] w':=⟨Nat.le_refl _,hb.size,hb.os,hb.out,fun id s h1=>⟨s,h1,Nat.le_refl _,fun _=>rfl⟩,fun id _ h1=>h1,fun id s l h1 h2=>.inr ⟨id,s,l,h1,h2,rfl⟩,rfl,rfl,fun b hr=>hb.block b (hH.resRow b hr).lt,fun b h1 _=>hb.block b h1⟩
 refine⟨v,[],ι,cv,he,⟨rfl,rfl⟩,hv w',⟨fun id s h1=> ?_,hH.inj,fun b hr=> ?_,hH.resNo⟩,hs⟩
 ·rw[hH.empty id]at h1;cases h1
 ·obtain⟨c,e,fr,h2⟩:=hH.resRow b hr
  exact⟨c,e,fr,(hb.block b (Array.getElem?_eq_some_iff.1 h2).1).trans h2⟩
theorem calls_of{f:FuncId}{args:List AV}{v:AV}(h:FnOk Try.prog f args [] fun u τ=>u=v∧τ=[]){ι:Map}{w:World}{cargs:Array Value}(hH:HR ι [] w)(ha:argsR ι w args cargs){w1:World}(hb:Bel w.heap.size w w1)
  (hv:args.all AV.isT=true):Calls Try.prog f cargs w1 fun e w'=>(∃ι' cv,e=.returned cv∧VR ι' w' v cv)∧Bel w1.heap.size w1 w':=by
 have hn:=hH.empty
 have hmono:∀{t:T} {u:Value},TR ι.un w t u→TR ι.un w1 t u:=fun h=>h.mono fun b hu hr=>⟨hu,hb.block b hr.lt⟩
 have hH1:HR ι [] w1:=⟨fun id s h=>(by rw[hn]at h;cases h),hH.inj,fun b hr=>by
  obtain⟨c,e,fr,h2⟩:=hH.resRow b hr
  exact⟨c,e,fr,(hb.block b (Array.getElem?_eq_some_iff.1 h2).1).trans h2⟩,hH.resNo⟩
 have hc:∀{c:Cell} {u:Value},c.isT=true→CR ι w c u→CR ι w1 c u:=fun{c u} hc h=>by
  cases c with
  |t x=>exact hmono h
  |_=>cases hc
 have ha1:argsR ι w1 args cargs:=⟨ha.1,fun i hi=>by
  obtain⟨u,h1,h2⟩:=ha.2 i hi
  refine⟨u,h1,?_⟩
  have hT:args[i].isT=true:=List.all_eq_true.1 hv _ (List.getElem_mem hi)
  generalize args[i]=x at h2 hT⊢
  cases x with
  |c x=>exact hc hT h2
  |agg xs=>
   obtain⟨arr,e,h3,h4⟩:=h2
   refine⟨arr,e,h3,fun j hj=> ?_⟩
   obtain⟨u',h5,h6⟩:=h4 j hj
   exact⟨u',h5,hc (List.all_eq_true.1 hT _ (List.getElem_mem hj)) h6⟩
  |tup xs=>
   obtain⟨arr,e,h3,h4⟩:=h2
   refine⟨arr,e,h3,fun j hj=> ?_⟩
   obtain⟨u',h5,h6⟩:=h4 j hj
   refine⟨u',h5,?_⟩
   have hj2:=List.all_eq_true.1 hT _ (List.getElem_mem hj)
   generalize xs[j]=y at h6 hj2⊢
   cases y with
   |inl y=>exact hc hj2 h6
   |inr ys=>
    obtain⟨arr',e',h7,h8⟩:=h6
    refine⟨arr',e',h7,fun l hl=> ?_⟩
    obtain⟨u'',h9,h10⟩:=h8 l hl
    exact⟨u'',h9,hc (List.all_eq_true.1 hj2 _ (List.getElem_mem hl)) h10⟩⟩
 refine callsIn_wide.1 (CallsIn.mono (h.2 ι w1 cargs (fun g c x h=>by cases h) hH1 ha1) fun e w' ⟨v',σ',ι',cv,he,⟨h1,h2⟩,h3,h4,h5⟩=> ?_)
 subst h1;subst h2
 refine⟨⟨ι',cv,he,h3⟩,⟨h5.os,h5.out,h5.size,fun b hb=> ?_⟩⟩
 by_cases hr:ι.res b
 ·exact h5.resKeep b hr
 ·refine h5.frame b hb fun hm=> ?_
  rcases hm with ⟨id,s,l,h6,_⟩|hres
  ·rw[hn]at h6;cases h6
  ·exact hr hres
theorem words_slice{U:Nat→Prop}{w:World}{ts:List T}{n:Nat}{v:Value}(h:TR U w (.imm ts n none) v):∃a k c,v=.slice a k c:=by
 cases h with
 |imm0 cap' a c hc=>exact⟨a,0,c,rfl⟩
 |imm cs len cap' b off c f hb hr hc hle hcell ht'=>exact⟨_,_,c,rfl⟩
theorem arg_pat{ι:Map}{w:World}{n:Int}{l:List Int}{cargs:Array Value}(ha:argsR ι w [.agg [.t (.int .i64 n),.t (.imm (l.flatMap (Ly.int .u64).trees) l.length none)]] cargs):
  ∃a k c,cargs= #[.agg #[.int .i64 n,.slice a k c]]:=by
 obtain⟨hsz,ha⟩:=ha
 obtain⟨u,e0,h0⟩:=ha 0 (by simp)
 have h0:aggR ι w [.t (.int .i64 n),.t (.imm (l.flatMap (Ly.int .u64).trees) l.length none)] u:=h0
 obtain⟨arr,rfl,h1,h2⟩:=h0
 obtain⟨u1,e1,g1⟩:=h2 0 (by simp)
 obtain⟨u2,e2,g2⟩:=h2 1 (by simp)
 have g1:TR ι.un w (.int .i64 n) u1:=g1
 cases g1
 obtain⟨a,k,c,rfl⟩:=words_slice (U:=ι.un) (w:=w) g2
 refine⟨a,k,c,?_⟩
 have ea:arr= #[.int .i64 n,.slice a k c]:=by
  refine Array.ext (by simpa using h1) fun i hi _=> ?_
  have hi:i<2:=by simpa [h1] using hi
  match i,hi with
  |0,_=>exact(Array.getElem?_eq_some_iff.1 e1).2
  |1,_=>exact(Array.getElem?_eq_some_iff.1 e2).2
 refine Array.ext (by simpa using hsz) fun i hi _=> ?_
 have hi:i<1:=by simpa [hsz] using hi
 match i,hi with
 |0,_=>rw[(Array.getElem?_eq_some_iff.1 e0).2,ea];rfl
theorem known:Known Try.prog 32 g f m:=by
 refine⟨fun _ _=>⟨rfl,rfl⟩,by decide,fun x y hy=> ?_⟩
 obtain⟨n,l⟩:=x
 unfold m at hy
 obtain⟨e,he,hy⟩:=bindO_some hy
 have h34:FnOk Try.prog 34 [.agg [.t (.int .i64 n),.t (.imm (l.flatMap (Ly.int .u64).trees) l.length none)]] [] fun v τ=>v=.c (.t (.imm (e.flatMap (Ly.int .u8).trees) e.length none))∧τ=[]:=M34.known.ok ⟨n,l⟩ e he
 show FnOk Try.prog 32 [.agg [.t (.int .i64 n),.t (.imm (l.flatMap (Ly.int .u64).trees) l.length none)]] [] fun v τ=>v=.c (.t (.str y))∧τ=[]
 refine fn_bel callable32 fun ι w cargs hH ha=> ?_
 obtain⟨a,k,c,rfl⟩:=arg_pat ha
 have hbits:∀w1,Bel w.heap.size w w1→Calls Try.prog 34 #[.agg #[.int .i64 n,.slice a k c]] w1 fun e' w'=>(∃a' c',e'=.returned (.slice a' e.length c')∧Els w' a' e)∧Bel w1.heap.size w1 w':=fun w1 hb=>
  (calls_of h34 hH ha hb rfl).mono fun e' w' ⟨⟨ι',cv,h1,h2⟩,h3⟩=>by
   obtain⟨a',c',rfl,h4⟩:=ints_tree (U:=ι'.un) (w:=w') (xs:=e) h2
   exact⟨⟨a',c',h1,h4⟩,h3⟩
 refine⟨.string ⟨y.toArray⟩,fun w'=>.str y,?_⟩
 cases hk:okS e with
 |false=>rw[hk]at hy;cases hy
 |true=>
  rw[hk]at hy
  cases hy
  obtain⟨v1,l1⟩:=okS_ok hk
  exact text_walk w a k c n e v1 l1 hbits
noncomputable def con:Con:=conT g f m default
theorem con_ok:ConOk Try.prog 32 con:=conT_ok known (fun _=>rfl) rfl
end M32
end Go.Proofs.Ytddaobhpffpmoaa
