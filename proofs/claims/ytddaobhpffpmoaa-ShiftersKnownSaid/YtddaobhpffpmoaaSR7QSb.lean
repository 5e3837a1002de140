/- A part of the proof. -/
import Derived.Test.YtddaobhpffpmoaaSR7QSa
import Derived.Test.YtddaobhpffpmoaaSR7QGj
import Derived.BigRegion
import Derived.StillTailTactics
set_option linter.all false
set_option maxRecDepth 100000
set_option maxHeartbeats 4000000
noncomputable section
namespace Go.Proofs.Ytddaobhpffpmoaa
section
open Go.RowKit
theorem expand_ok(w:World)(N T c:Int)(st:Nat->Int)(hst:∀k,M93.m ⟨N,T,st k⟩=some (N,T,st (k+1)))(pr:Int->Int)(hpr:∀x y,M110.m ⟨band x y⟩=some (pr (band x y)))(ph:List Int)(pa:Option Addr)(pc:Nat)(hph:ElsU w w.heap.size pa ph)(hpl:ph.length<=4096)(hc:ph≠[]->0<=c/\c<=4096)(hc64: -9223372036854775808<=c/\c<=9223372036854775807)
  (h72:∀w1,Bel w.heap.size w w1->Calls Try.prog 72 #[.agg #[.int .i64 N,.int .u64 T,.slice pa ph.length pc,.int .i64 c]] w1 λe w'=>e=.returned (.int .i64 0)/\Bel w1.heap.size w1 w')
  (h91:∀w1,Bel w.heap.size w w1->Calls Try.prog 91 #[.agg #[.int .i64 N,.int .u64 T],.int .u64 (st 0)] w1 λe w'=>e=.returned (.tuple #[.agg #[.int .i64 N,.int .u64 T,.int .u64 (st 0)],.int .i64 0])/\Bel w1.heap.size w1 w'):
  Calls Try.prog 61 #[.agg #[.int .i64 N,.int .u64 T,.slice pa ph.length pc,.int .i64 c],.int .u64 (st 0)] w λe w'=>∃bo br rb,e=.returned (.tuple #[.slice (some ⟨br,0,none⟩) ph.length ph.length,.int .i64 0])/\OutAt w' bo br ph.length c.toNat rb (cellV st pr ph c.toNat)/\Bel w.heap.size w w'/\w.heap.size<=br/\∀j,j<ph.length->w.heap.size<=rb j:=by
 go_enter Try.func61,Try.ntmps61
 have hB0:Bel w.heap.size w (w.alloc (.cells #[.int .i64 N,.int .u64 T,.slice pa ph.length pc,.int .i64 c] 102)):=((Fr.alloc (· <w.heap.size) w _)).bel (A9 _)
 go_wp2_with (go_at_call 72;refine(h72 _ hB0).mono ?_)
 rintro e w1 ⟨rfl,hb1⟩;have hbd:w1.heap[w.heap.size]? =some (.cells #[.int .i64 N,.int .u64 T,.slice pa ph.length pc,.int .i64 c] 102 (0,0)):=(hb1.block _ (by simp)).trans (AI _ _);have hd0:w1.cell? ⟨w.heap.size,0,none⟩=some (.int .i64 N):=by simp[World.cell?,hbd]
 have hd1:w1.cell? ⟨w.heap.size,1,none⟩=some (.int .u64 T):=by simp[World.cell?,hbd]
 have hd2:w1.cell? ⟨w.heap.size,2,none⟩=some (.slice pa ph.length pc):=by simp[World.cell?,hbd]
 have hd3:w1.cell? ⟨w.heap.size,3,none⟩=some (.int .i64 c):=by simp[World.cell?,hbd]
 have hB1:Bel w.heap.size w w1:=hB0.trans (hb1.le (by simp))
 go_wp2_with (go_at_call 91;refine(h91 _ hB1).mono ?_)
 rintro e w2 ⟨rfl,hb2⟩;have hB2:Bel w.heap.size w w2:=hB1.trans (hb2.le hB1.size);have hs1:w.heap.size+1<=w1.heap.size:=by have:=hb1.size;simp at this;omega
 obtain⟨i0,hi,hz0,hz1,hz2⟩:=info_parts info110;obtain⟨i1,hj1,hy0,hy1,hy2⟩:=info_parts info111;have hkd:w2.heap[w.heap.size]? =some (.cells #[.int .i64 N,.int .u64 T,.slice pa ph.length pc,.int .i64 c] 102 (0,0)):=(hb2.block _ (by omega)).trans hbd;have hkd3:(w2.alloc (.cells #[.int .i64 N,.int .u64 T,.int .u64 (st 0)] 156)).heap[w.heap.size]? =some (.cells #[.int .i64 N,.int .u64 T,.slice pa ph.length pc,.int .i64 c] 102 (0,0)):=(Below.heap_alloc _ _ _ (WF.1 hkd).1).trans hkd;have hd2:(w2.alloc (.cells #[.int .i64 N,.int .u64 T,.int .u64 (st 0)] 156)).cell? ⟨w.heap.size,2,none⟩=some (.slice pa ph.length pc):=by simp[World.cell?,hkd3]
 go_wp2_with (first|(at_make;refine wpList_make_full _ rfl _ _ 104 rfl w.heap.size 110 i0 _ 1 Try.underlying104 hi hz0 hz1 .i64 .i64 _ _ ph.length rfl rfl rfl rfl ?b2 ?b3 ?b4 ?_))
 case b2=>rw[hz2];omega
 case b3=>simp[maxLen];omega
 case b4=>have:=hB2.size;simp;omega
 intro w3 ho3 hg3
 go_wp2
 obtain⟨hf3,cur3,hc3,hs3,hz3⟩:=made (W:=w2.alloc (.cells #[.int .i64 N,.int .u64 T,.int .u64 (st 0)] 156)) (z:=.slice none 0 0) rfl (by simpa [Value.cells] using ho3) hg3;have hW2:(w2.alloc (.cells #[.int .i64 N,.int .u64 T,.int .u64 (st 0)] 156)).heap.size=w2.heap.size+1:=by simp
 rw[hW2]at hc3;have hm3:w3.heap[w2.heap.size]? =some (.cells #[.int .i64 N,.int .u64 T,.int .u64 (st 0)] 156 (0,0)):=(hf3.keep _ (by simp) trivial).trans (AI _ _);have hk3:w3.heap[w.heap.size]? =some (.cells #[.int .i64 N,.int .u64 T,.slice pa ph.length pc,.int .i64 c] 102 (0,0)):=(hf3.keep _ (WF.1 hkd3).1 trivial).trans hkd3;have hB3:Bel w.heap.size w w3:=hB2.trans ((((Fr.alloc (λ_=>True) w2 _).trans hf3).imp λ_ _ _=>trivial).bel (B:=w.heap.size) hB2.size);have hl3:=(WF.1 hc3).1;have hB4:Bel w.heap.size w (w3.alloc (.cells #[.slice (some ⟨w2.heap.size+1,0,none⟩) ph.length ph.length] 104)):=hB3.trans ((Fr.alloc _ _ _).bel hB3.size);have hk4:=(Below.heap_alloc w3 (.cells #[.slice (some ⟨w2.heap.size+1,0,none⟩) ph.length ph.length] 104) _ (WF.1 hk3).1).trans hk3;have hm4:=(Below.heap_alloc w3 (.cells #[.slice (some ⟨w2.heap.size+1,0,none⟩) ph.length ph.length] 104) _ (WF.1 hm3).1).trans hm3;have hP4:Part (w3.alloc (.cells #[.slice (some ⟨w2.heap.size+1,0,none⟩) ph.length ph.length] 104)) w3.heap.size (w2.heap.size+1) ph.length c.toNat 0 (λ_=>0):=
  ⟨AI _ _,⟨cur3,(Below.heap_alloc _ _ _ hl3).trans hc3,hs3,λ_ h=>absurd h (BA _)⟩,λ_ h=>absurd h (BA _),λ_ _ h=>absurd h (BA _),hl3,λ_ h=>absurd h (BA _)⟩
 obtain⟨W0,hW0⟩:∃W0,w3.alloc (.cells #[.slice (some ⟨w2.heap.size+1,0,none⟩) ph.length ph.length] 104)=W0:=⟨_,rfl⟩;rw[hW0]at hB4 hk4 hm4 hP4⊢;have hbo:w3.heap.size<W0.heap.size:=(WF.1 hP4.box).1;generalize hbo':w3.heap.size=bo at hP4 hbo⊢;generalize hbm':w2.heap.size=bm at hm4 hP4⊢;have hbm:w.heap.size<bm:=by have:=hb2.size;omega
 clear hW0 ho3 hg3 hf3 hc3 hs3 hz3 hW2 hm3 hk3 hl3 hB3 hkd3 hkd hd2 hB2 hb2 hb1 hbd hd0 hd1 hB1 hB0 h72 h91
 go_loopw [32] (λp wr=>∃(j:Nat) (rb:Nat->Nat),p=.int .i64 j/\j<=ph.length/\Part wr bo (bm+1) ph.length c.toNat j rb/\Fr (λb=>b<bo/\b≠bm+1) W0 wr) (λp _=>ph.length - (intOf p).toNat)
 case atStart=>exact⟨0,λ_=>0,rfl,B4 _,hP4,Fr.refl _ _⟩
 case round=>
  obtain⟨j,rb,rfl,hj,hP,hf⟩:=hrel;obtain⟨ct,htop,hts,_⟩:=hP.top;have hk0:wr.heap[w.heap.size]? =some (.cells #[.int .i64 N,.int .u64 T,.slice pa ph.length pc,.int .i64 c] 102 (0,0)):=(hf.keep _ (WF.1 hk4).1 (by have:=hP.low;omega)).trans hk4;have hm0:wr.heap[bm]? =some (.cells #[.int .i64 N,.int .u64 T,.int .u64 (st 0)] 156 (0,0)):=(hf.keep _ (WF.1 hm4).1 ⟨by have:=hP.low;omega,by omega⟩).trans hm4;have hb0:wr.cell? ⟨bo,0,none⟩=some (.slice (some ⟨bm+1,0,none⟩) ph.length ph.length):=(by simp[World.cell?,hP.box]);by_cases hjm:j<ph.length
  ·obtain⟨vt,hvt⟩:∃vt,ct[j]? =some vt:=⟨_,B3 (by omega)⟩;have hblt:=(WF.1 htop).1;have ht0:wr.cell? ⟨bm+1,j,none⟩=some vt:=(by simp[World.cell?,htop,hvt]);have hfz:wr.frozen? ⟨bm+1,j,none⟩=false:=(by simp[World.frozen?,htop]);obtain⟨hc0,hc1⟩:=hc (λe=>by rw[e]at hjm;cases hjm);obtain⟨cn,rfl⟩:=AH hc0;have hc3:wr.cell? ⟨w.heap.size,3,none⟩=some (.int .i64 cn):=(by simp[World.cell?,hk0]);rw[A8]at hP
   go_wp2
   refine wp_region_any (by kernel_rfl) ?_
   change wpAny _ _ _ _ _ _ _ (World.drew _)
   refine wpAny_take (i:=1) (v:=.int .i64 j) rfl (by kernel_rfl) (by kernel_rfl) (by kernel_rfl) (λ_ _ _ h=>h) (Or.inl ⟨by rfl,λw=>by go_simp<;>first|rfl|assumption|omega⟩) ?_;refine wpAny_take (i:=2) (v:=.pointer (some ⟨w.heap.size,3,none⟩)) rfl (by kernel_rfl) (by kernel_rfl) (by kernel_rfl) (λ_ _ _ h=>h) (Or.inl ⟨by rfl,λw=>by go_simp<;>first|rfl|assumption|omega⟩) ?_;refine CU (rs:=[0,3]) (by kernel_rfl) (by simp) ((Bw rfl (λK hK=> ?_) (Bw rfl (λK hK=> ?_) CM)))
   ·go_simp
    refine hK _ _ ?_;clear hK K;refine CU (rs:=[3]) (by kernel_rfl) (by simp) ((Bw rfl (λK hK=> ?_) CM))
    ·go_simp
     refine hK _ _ ?_;clear hK K;refine wpAny_take (i:=4) (v:=.int .i64 cn) rfl (by kernel_rfl) (by kernel_rfl) (by kernel_rfl) (λ_ _ _ h=>h) (Or.inl ⟨by rfl,λw=>by go_simp<;>first|rfl|assumption|omega⟩) ?_;refine wpAny_take (i:=5) (v:=.int .i64 cn) rfl (by kernel_rfl) (by kernel_rfl) (by kernel_rfl) (λ_ _ _ h=>h) (Or.inl ⟨by rfl,λw=>by go_simp<;>first|rfl|assumption|omega⟩) ?_;refine CU (rs:=[6]) (by kernel_rfl) (by simp) ((Bw rfl (λK hK=> ?_) CM))
     ·obtain⟨w6,hrun6,ho6,hg6⟩:=run_make_full (P:=Try.prog) (w:=wr.drew) wr.heap.size 110 111 i1 _ 1 Try.underlying110 hj1 hy0 hy1 .i64 .i64 cn (by rw[hy2];omega) (by simp[maxLen];omega) (A9 _);obtain⟨hf6,cur6,hc6,hs6,hz6⟩:=made (W:=wr.drew) (z:=.int .u8 0) rfl ho6 hg6
      replace hf6:Fr (λ_=>True) wr w6:=⟨hf6.os,hf6.out,hf6.size,hf6.keep⟩
      have hb6:w6.cell? ⟨bo,0,none⟩=some (.slice (some ⟨bm+1,0,none⟩) ph.length ph.length):=(cell_same (hf6.keep bo (WF.1 hP.box).1 trivial) 0).trans hb0;have ht6:w6.cell? ⟨bm+1,j,none⟩=some vt:=(cell_same (hf6.keep (bm+1) hblt trivial) j).trans ht0;have hfz6:w6.frozen? ⟨bm+1,j,none⟩=false:=by have h:=hf6.keep (bm+1) hblt trivial;have:wr.frozen? ⟨bm+1,j,none⟩=false:=hfz;unfold World.frozen? at this⊢;rw[h];exact this
      go_simp
      refine hK _ _ ?_;clear hK K;refine wpAny_take (i:=7) (v:=.pointer (some ⟨bm+1,j,none⟩)) rfl (by kernel_rfl) (by kernel_rfl) (by kernel_rfl) (λ_ _ _ h=>h) (Or.inl ⟨by rfl,λw=>by go_simp<;>first|rfl|assumption|omega⟩) ?_;refine CU (rs:=[8]) (by kernel_rfl) (by simp) ((Bw rfl (λK hK=> ?_) CM))
      go_simp
      refine hK _ _ ?_;clear hK K;refine wpAny_done (by kernel_rfl) ?_ _
      go_simp
      go_wp2
      go_roundw
      case rel=>exact⟨j+1,_,by simp,by omega,hP.next hjm hf6 hc6 hs6 hz6,(hf.trans (hf6.imp λ_ _ _=>trivial)).trans (Fr.setCell _ _ _ (λh=>h.2 rfl))⟩
      case measure=>simp[intOf];omega
   ·go_simp
    refine hK _ _ ?_;clear hK K;refine wpAny_take (i:=4) (v:=.int .i64 cn) rfl (by kernel_rfl) (by kernel_rfl) (by kernel_rfl) (λ_ _ _ h=>h) (Or.inl ⟨by rfl,λw=>by go_simp<;>first|rfl|assumption|omega⟩) ?_;refine wpAny_take (i:=5) (v:=.int .i64 cn) rfl (by kernel_rfl) (by kernel_rfl) (by kernel_rfl) (λ_ _ _ h=>h) (Or.inl ⟨by rfl,λw=>by go_simp<;>first|rfl|assumption|omega⟩) ?_;refine CU (rs:=[0,6]) (by kernel_rfl) (by simp) ((Bw rfl (λK hK=> ?_) (Bw rfl (λK hK=> ?_) CM)))
    ·go_simp
     refine hK _ _ ?_;clear hK K;refine CU (rs:=[6]) (by kernel_rfl) (by simp) ((Bw rfl (λK hK=> ?_) CM))
     ·obtain⟨w6,hrun6,ho6,hg6⟩:=run_make_full (P:=Try.prog) (w:=wr.drew) wr.heap.size 110 111 i1 _ 1 Try.underlying110 hj1 hy0 hy1 .i64 .i64 cn (by rw[hy2];omega) (by simp[maxLen];omega) (A9 _);obtain⟨hf6,cur6,hc6,hs6,hz6⟩:=made (W:=wr.drew) (z:=.int .u8 0) rfl ho6 hg6
      replace hf6:Fr (λ_=>True) wr w6:=⟨hf6.os,hf6.out,hf6.size,hf6.keep⟩
      have hb6:w6.cell? ⟨bo,0,none⟩=some (.slice (some ⟨bm+1,0,none⟩) ph.length ph.length):=(cell_same (hf6.keep bo (WF.1 hP.box).1 trivial) 0).trans hb0;have ht6:w6.cell? ⟨bm+1,j,none⟩=some vt:=(cell_same (hf6.keep (bm+1) hblt trivial) j).trans ht0;have hfz6:w6.frozen? ⟨bm+1,j,none⟩=false:=by have h:=hf6.keep (bm+1) hblt trivial;have:wr.frozen? ⟨bm+1,j,none⟩=false:=hfz;unfold World.frozen? at this⊢;rw[h];exact this
      go_simp
      refine hK _ _ ?_;clear hK K;refine wpAny_take (i:=7) (v:=.pointer (some ⟨bm+1,j,none⟩)) rfl (by kernel_rfl) (by kernel_rfl) (by kernel_rfl) (λ_ _ _ h=>h) (Or.inl ⟨by rfl,λw=>by go_simp<;>first|rfl|assumption|omega⟩) ?_;refine CU (rs:=[8]) (by kernel_rfl) (by simp) ((Bw rfl (λK hK=> ?_) CM))
      go_simp
      refine hK _ _ ?_;clear hK K;refine wpAny_done (by kernel_rfl) ?_ _
      go_simp
      go_wp2
      go_roundw
      case rel=>exact⟨j+1,_,by simp,by omega,hP.next hjm hf6 hc6 hs6 hz6,(hf.trans (hf6.imp λ_ _ _=>trivial)).trans (Fr.setCell _ _ _ (λh=>h.2 rfl))⟩
      case measure=>simp[intOf];omega
    ·obtain⟨w6,hrun6,ho6,hg6⟩:=run_make_full (P:=Try.prog) (w:=wr.drew) wr.heap.size 110 111 i1 _ 1 Try.underlying110 hj1 hy0 hy1 .i64 .i64 cn (by rw[hy2];omega) (by simp[maxLen];omega) (A9 _);obtain⟨hf6,cur6,hc6,hs6,hz6⟩:=made (W:=wr.drew) (z:=.int .u8 0) rfl ho6 hg6
     replace hf6:Fr (λ_=>True) wr w6:=⟨hf6.os,hf6.out,hf6.size,hf6.keep⟩
     have hb6:w6.cell? ⟨bo,0,none⟩=some (.slice (some ⟨bm+1,0,none⟩) ph.length ph.length):=(cell_same (hf6.keep bo (WF.1 hP.box).1 trivial) 0).trans hb0;have ht6:w6.cell? ⟨bm+1,j,none⟩=some vt:=(cell_same (hf6.keep (bm+1) hblt trivial) j).trans ht0;have hfz6:w6.frozen? ⟨bm+1,j,none⟩=false:=by have h:=hf6.keep (bm+1) hblt trivial;have:wr.frozen? ⟨bm+1,j,none⟩=false:=hfz;unfold World.frozen? at this⊢;rw[h];exact this
     go_simp
     refine hK _ _ ?_;clear hK K;refine CU (rs:=[0]) (by kernel_rfl) (by simp) ((Bw rfl (λK hK=> ?_) CM))
     ·go_simp
      refine hK _ _ ?_;clear hK K;refine wpAny_take (i:=7) (v:=.pointer (some ⟨bm+1,j,none⟩)) rfl (by kernel_rfl) (by kernel_rfl) (by kernel_rfl) (λ_ _ _ h=>h) (Or.inl ⟨by rfl,λw=>by go_simp<;>first|rfl|assumption|omega⟩) ?_;refine CU (rs:=[8]) (by kernel_rfl) (by simp) ((Bw rfl (λK hK=> ?_) CM))
      go_simp
      refine hK _ _ ?_;clear hK K;refine wpAny_done (by kernel_rfl) ?_ _
      go_simp
      go_wp2
      go_roundw
      case rel=>exact⟨j+1,_,by simp,by omega,hP.next hjm hf6 hc6 hs6 hz6,(hf.trans (hf6.imp λ_ _ _=>trivial)).trans (Fr.setCell _ _ _ (λh=>h.2 rfl))⟩
      case measure=>simp[intOf];omega
  ·obtain rfl:j=ph.length:=(by omega);have hd0:wr.cell? ⟨w.heap.size,0,none⟩=some (.int .i64 N):=(by simp[World.cell?,hk0]);have hd1:wr.cell? ⟨w.heap.size,1,none⟩=some (.int .u64 T):=(by simp[World.cell?,hk0]);have hd2:wr.cell? ⟨w.heap.size,2,none⟩=some (.slice pa ph.length pc):=(by simp[World.cell?,hk0]);have hd3:wr.cell? ⟨w.heap.size,3,none⟩=some (.int .i64 c):=(by simp[World.cell?,hk0]);have hm1:wr.cell? ⟨bm,0,none⟩=some (.int .i64 N):=(by simp[World.cell?,hm0]);have hm2:wr.cell? ⟨bm,1,none⟩=some (.int .u64 T):=(by simp[World.cell?,hm0]);have hm3:wr.cell? ⟨bm,2,none⟩=some (.int .u64 (st 0)):=(by simp[World.cell?,hm0]);have helw:ElsU wr w.heap.size pa ph:=(hph.fr (Fr.imp (Bel.fr hB4) λ_ _ h=>h)).fr (hf.imp λb _ hb=>by have:=hP.low;omega)
   go_wp2_with (go_at_call 94;refine(expand_each wr N T c ph pa pc w.heap.size bo (bm+1) rb st hst pr hpr hc hpl hP helw (by omega)).mono ?_)
   rintro e w9 ⟨⟨v9,rfl⟩,ho9,hf9⟩;have hx9:w9.cell? ⟨bo,0,none⟩=some (.slice (some ⟨bm+1,0,none⟩) ph.length ph.length):=by simp[World.cell?,ho9.box]
   go_wp2
   go_ret2
   refine⟨bo,bm+1,rb,rfl,ho9,?_,by omega,λj hj=>by have:=hP.high j hj;have:=hP.low;omega⟩;exact hB4.trans (((hf.imp λb _ hb=>by have:=hP.low;omega).trans (hf9.imp λb _ hb=>by have:=hP.low;omega)).bel (B:=w.heap.size) hB4.size)
end
section
open Go.RowKit
theorem expand_err1(w:World)(N T s c e1:Int)(ph:List Int)(pa:Option Addr)(pc:Nat)(he:e1≠0)
  (h72:∀w1,Bel w.heap.size w w1->Calls Try.prog 72 #[.agg #[.int .i64 N,.int .u64 T,.slice pa ph.length pc,.int .i64 c]] w1 λe w'=>e=.returned (.int .i64 e1)/\Bel w1.heap.size w1 w'):
  Calls Try.prog 61 #[.agg #[.int .i64 N,.int .u64 T,.slice pa ph.length pc,.int .i64 c],.int .u64 s] w λe w'=>e=.returned (.tuple #[.slice none 0 0,.int .i64 e1])/\Bel w.heap.size w w':=by
 go_enter Try.func61,Try.ntmps61
 have hB0:Bel w.heap.size w (w.alloc (.cells #[.int .i64 N,.int .u64 T,.slice pa ph.length pc,.int .i64 c] 102)):=((Fr.alloc (· <w.heap.size) w _)).bel (A9 _)
 go_wp2_with (go_at_call 72;refine(h72 _ hB0).mono ?_)
 rintro e w1 ⟨rfl,hb1⟩;have hB1:Bel w.heap.size w w1:=hB0.trans (hb1.le (by simp));have he':(e1==0)=false:=by simpa using he
 go_wp2
 go_ret2
 exact⟨rfl,hB1⟩
theorem expand_err2(w:World)(N T s c e2:Int)(m:Value)(ph:List Int)(pa:Option Addr)(pc:Nat)(he:e2≠0)(m0 m1 m2:Int)
  (h72:∀w1,Bel w.heap.size w w1->Calls Try.prog 72 #[.agg #[.int .i64 N,.int .u64 T,.slice pa ph.length pc,.int .i64 c]] w1 λe w'=>e=.returned (.int .i64 0)/\Bel w1.heap.size w1 w')
  (h91:∀w1,Bel w.heap.size w w1->Calls Try.prog 91 #[.agg #[.int .i64 N,.int .u64 T],.int .u64 s] w1 λe w'=>e=.returned (.tuple #[.agg #[.int .i64 m0,.int .u64 m1,.int .u64 m2],.int .i64 e2])/\Bel w1.heap.size w1 w'):
  Calls Try.prog 61 #[.agg #[.int .i64 N,.int .u64 T,.slice pa ph.length pc,.int .i64 c],.int .u64 s] w λe w'=>e=.returned (.tuple #[.slice none 0 0,.int .i64 e2])/\Bel w.heap.size w w':=by
 go_enter Try.func61,Try.ntmps61
 have hB0:Bel w.heap.size w (w.alloc (.cells #[.int .i64 N,.int .u64 T,.slice pa ph.length pc,.int .i64 c] 102)):=((Fr.alloc (· <w.heap.size) w _)).bel (A9 _)
 go_wp2_with (go_at_call 72;refine(h72 _ hB0).mono ?_)
 rintro e w1 ⟨rfl,hb1⟩;have hbd:w1.heap[w.heap.size]? =some (.cells #[.int .i64 N,.int .u64 T,.slice pa ph.length pc,.int .i64 c] 102 (0,0)):=(hb1.block _ (by simp)).trans (AI _ _);have hd0:w1.cell? ⟨w.heap.size,0,none⟩=some (.int .i64 N):=by simp[World.cell?,hbd]
 have hd1:w1.cell? ⟨w.heap.size,1,none⟩=some (.int .u64 T):=by simp[World.cell?,hbd]
 have hB1:Bel w.heap.size w w1:=hB0.trans (hb1.le (by simp))
 go_wp2_with (go_at_call 91;refine(h91 _ hB1).mono ?_)
 rintro e w2 ⟨rfl,hb2⟩;have hB2:Bel w.heap.size w w2:=hB1.trans (hb2.le hB1.size);have he':(e2==0)=false:=by simpa using he
 go_wp2
 go_ret2
 exact⟨rfl,hB2.trans ((Fr.alloc _ _ _).bel hB2.size)⟩
end
section
open Go.Abs Go.RowKit
namespace M61
structure gX where(n t:Int)(ph:List Int)(c s:Int)
def g:Sg gX:=⟨[.agg [.it .i64,.it .u64,.arr (.int .u64),.it .i64],.c (.it .u64)],[],λa b=>⟨a.1.1,a.1.2.1,a.1.2.2.1,a.1.2.2.2.1,a.2.1⟩,λx=>((x.n,(x.t,(x.ph,(x.c,())))),(x.s,())),λx=>()⟩
abbrev fY:=List (List Int)×Int
def f:Ft fY:=⟨none,.tup [.inl (.arr (.sl (.int .u8))),.inl (.it .i64)],[],λa b=>(a.1,a.2.1),λy=>(y.1,(y.2,())),λy=>()⟩
def pr(x:Int):Int:=(M110.m ⟨x⟩).getD 0
def nx(n t s:Int):Int:=((M93.m ⟨n,t,s⟩).getD (0,0,0)).2.2
def st(n t s:Int):Nat->Int
 |0=>s
 |k+1=>nx n t (st n t s k)
def cells(x:gX):List (List Int):=(List.range x.ph.length).map λj=>(List.range x.c.toNat).map λi=>cellV (st x.n x.t x.s) pr x.ph x.c.toNat j i
def okE(x:gX):Bool:=decide (0<=x.n)&&(decide (x.ph=[])||(decide (0<=x.c)&&decide (x.c<=4096)))&&decide (x.ph.length<=4096)&&decide (-9223372036854775808<=x.c)&&decide (x.c<=9223372036854775807)
def m(x:gX):Option fY:=bindO (M72.m ⟨x.n,x.t,x.ph,x.c⟩) λe=>bif e !=0 then some ([],e) else bindO (M91.m ⟨x.n,x.t,x.s⟩) λy=>bif y.2.2.2 !=0 then some ([],y.2.2.2) else bif okE x then some (cells x,0) else none
theorem callable61:Jq Try.prog 61:=⟨Try.f61,Try.func61,by kernel_rfl,by kernel_rfl⟩
theorem hpr(x y:Int):M110.m ⟨band x y⟩=some (pr (band x y)):=rfl
theorem hst(n t s:Int)(hn:0<=n)(k:Nat):M93.m ⟨n,t,st n t s k⟩=some (n,t,st n t s (k+1)):=by show _=some (n,t,nx n t (st n t s k));generalize st n t s k=x;unfold nx M93.m;simp only[A5 hn,M110.m,M108.m,M108.p6,M108.p5,M108.p4,M108.p3,M108.p2,M108.p1,bindO];cases decide (n<64)<;>rfl
theorem u64_trees(xs:List Int):xs.flatMap (Ly.int .u64).trees=xs.map (T.int .u64):=by
 induction xs with
 |nil=>rfl
 |cons x xs ih=>rw[B5,ih];rfl
theorem u64_tree{U:Nat->Prop}{w:World}{xs:List Int}{v:Value}(h:TR U w (.imm (xs.flatMap (Ly.int .u64).trees) xs.length none) v):∃a c,v=.slice a xs.length c/\ElsU w w.heap.size a xs:=by
 rw[u64_trees]at h;generalize ht:T.imm (xs.map (T.int .u64)) xs.length none=t at h
 cases h with
 |imm0 cap' a c hc=>injection ht with h1 h2;have h3:xs=[]:=AN.1 h2;subst h3;exact⟨a,c,rfl,λk hk=>by simp at hk⟩
 |imm cs len cap' b off c f hb hr hc hle hcell ht'=>injection ht with h1 h2;subst h1;subst h2;refine⟨_,c,rfl,λk hk=>⟨b,off,rfl,hr.lt,hr.lt,?_⟩⟩;have hk':k<(xs.map (T.int .u64)).length:=(by simpa using hk);rw[hcell k hk'];have h5:=ht' k hk';simp only[AM]at h5;generalize f k=u at h5⊢;cases h5;rfl
 |_=>cases ht
theorem arg_pat{ι:Map}{w:World}{n t c s:Int}{l:List Int}{cargs:Array Value}(ha:Ji ι w [.agg [.t (.int .i64 n),.t (.int .u64 t),.t (.imm (l.flatMap (Ly.int .u64).trees) l.length none),.t (.int .i64 c)],.c (.t (.int .u64 s))] cargs):
  ∃a k,cargs= #[.agg #[.int .i64 n,.int .u64 t,.slice a l.length k,.int .i64 c],.int .u64 s]/\ElsU w w.heap.size a l:=by
 obtain⟨hsz,ha⟩:=ha;obtain⟨u,e0,h0⟩:=ha 0 (by simp);obtain⟨us,es,hs⟩:=ha 1 (by simp);have h0:Jj ι w [.t (.int .i64 n),.t (.int .u64 t),.t (.imm (l.flatMap (Ly.int .u64).trees) l.length none),.t (.int .i64 c)] u:=h0;have hs:TR ι.un w (.int .u64 s) us:=hs;cases hs;obtain⟨arr,rfl,h1,h2⟩:=h0;obtain⟨u1,e1,g1⟩:=h2 0 (by simp);obtain⟨u2,e2,g2⟩:=h2 1 (by simp);obtain⟨u3,e3,g3⟩:=h2 2 (by simp);obtain⟨u4,e4,g4⟩:=h2 3 (by simp);have g1:TR ι.un w (.int .i64 n) u1:=g1;have g2:TR ι.un w (.int .u64 t) u2:=g2;have g4:TR ι.un w (.int .i64 c) u4:=g4;cases g1;cases g2;cases g4;obtain⟨a,k,rfl,hel⟩:=u64_tree (U:=ι.un) (w:=w) g3;refine⟨a,k,?_,hel⟩;have ea:arr= #[.int .i64 n,.int .u64 t,.slice a l.length k,.int .i64 c]:=by
  refine Bt (by simpa using h1) λi hi _=> ?_;have hi:i<4:=by simpa [h1] using hi
  match i,hi with
  |0,_=>exact(WF.1 e1).2
  |1,_=>exact(WF.1 e2).2
  |2,_=>exact(WF.1 e3).2
  |3,_=>exact(WF.1 e4).2
 refine Bt (by simpa using hsz) λi hi _=> ?_;have hi:i<2:=by simpa [hsz] using hi
 match i,hi with
 |0,_=>rw[(WF.1 e0).2,ea];rfl
 |1,_=>exact(WF.1 es).2
theorem fn_belW{f:FuncId}{args:List AV}{v:AV}(hc:Jq Try.prog f)
  (h:∀ι w cargs,HR ι [] w->Ji ι w args cargs->Calls Try.prog f cargs w λe w'=>(∃cv,e=.returned cv/\VR ι w' v cv)/\Bel w.heap.size w w'):
  Qo Try.prog f args [] λu τ=>u=v/\τ=[]:=by
 refine⟨hc,fun ι w cargs _ hH ha=> ?_⟩;refine BN (Az.2 (h ι w cargs hH ha)) λe w' ⟨⟨cv,he,hv⟩,hb⟩=> ?_;have hs:Step ι [] w ι [] w':=⟨A9 _,hb.size,hb.os,hb.out,λid s h1=>⟨s,h1,A9 _,λ_=>rfl⟩,λid _ h1=>h1,λid s l h1 h2=>.inr ⟨id,s,l,h1,h2,rfl⟩,rfl,rfl,λb hr=>hb.block b (hH.resRow b hr).lt,λb h1 _=>hb.block b h1⟩;refine⟨v,[],ι,cv,he,⟨rfl,rfl⟩,hv,⟨λid s h1=> ?_,hH.inj,λb hr=> ?_,hH.resNo⟩,hs⟩
 ·rw[hH.empty id]at h1;cases h1
 ·obtain⟨c,e,fr,h2⟩:=hH.resRow b hr;exact⟨c,e,fr,(hb.block b (WF.1 h2).1).trans h2⟩
theorem row_tree{U:Nat->Prop}{W:World}{b c:Nat}{val:Nat->Int}{cur:Array Value}(hb:W.heap[b]? =some (.cells cur 111 (0,0)))(hv:∀i,i<c->cur[i]? =some (.int .u8 (val i)))(hU:U b):
  TR U W (.imm (((List.range c).map val).flatMap (Ly.int .u8).trees) ((List.range c).map val).length none) (.slice (some ⟨b,0,none⟩) c c):=by
 rw[M32.Kl,AG,Bn];refine TR.imm _ c none b 0 c (λi=>.int .u8 (val i)) hU ⟨_,_,_,hb⟩ trivial (A9 _) (λi hi=> ?_) (λi hi=> ?_)
 ·have hi:i<c:=(by simpa using hi);simp[World.cell?,hb,hv i hi]
 ·have hi':i<c:=(by simpa using hi);simp only[AM,List.getElem_range];exact TR.int _ _
theorem rows_trees(xs:List (List Int)):xs.flatMap (Ly.sl (.int .u8)).trees=xs.map λr=>T.imm (r.flatMap (Ly.int .u8).trees) r.length none:=by
 induction xs with
 |nil=>rfl
 |cons x xs ih=>rw[B5,ih];rfl
theorem out_tree{U:Nat->Prop}{W:World}{bo br m c:Nat}{rb:Nat->Nat}{val:Nat->Nat->Int}(h:OutAt W bo br m c rb val)(hU:U br)(hR:∀j,j<m->U (rb j)):
  TR U W (.imm (((List.range m).map λj=>(List.range c).map (val j)).flatMap (Ly.sl (.int .u8)).trees) ((List.range m).map λj=>(List.range c).map (val j)).length none) (.slice (some ⟨br,0,none⟩) m m):=by
 obtain⟨cur,h2,_,h3⟩:=h.top;rw[rows_trees,AG,Bn];refine TR.imm _ m none br 0 m (λj=>.slice (some ⟨rb j,0,none⟩) c c) hU ⟨_,_,_,h2⟩ trivial (A9 _) (λi hi=> ?_) (λi hi=> ?_)
 ·have hi:i<m:=(by simpa using hi);simp[World.cell?,h2,h3 i hi]
 ·have hi':i<m:=(by simpa using hi);obtain⟨cu,g1,_,g3⟩:=h.row i hi';simp only[AM,List.getElem_range];exact row_tree g1 g3 (hR i hi')
end M61
end
section
open Go.Abs Go.RowKit
namespace M61
theorem begin_ok{n t s:Int}{y:Int×Int×Int×Int}(h:M91.m ⟨n,t,s⟩=some y)(h0:y.2.2.2=0):y=(n,t,s,0):=by
 unfold M91.m at h;obtain⟨e,he,h⟩:=JN h
 cases hb:(e !=0) with
 |true=>rw[hb]at h;cases h;rw[show e=0 from h0]at hb;cases hb
 |false=>
  rw[hb]at h;obtain⟨b,hb,h⟩:=JN h
  cases b with
  |true=>cases h;cases h0
  |false=>cases h;rfl
theorem args91(ι:Map)(w:World)(n t s:Int):Ji ι w [.agg [.t (.int .i64 n),.t (.int .u64 t)],.c (.t (.int .u64 s))] #[.agg #[.int .i64 n,.int .u64 t],.int .u64 s]:=by
 refine⟨rfl,λi hi=> ?_⟩;have hi:i<2:=hi
 match i,hi with
 |0,_=>
  refine⟨_,rfl,_,rfl,rfl,λj hj=> ?_⟩;have hj:j<2:=hj
  match j,hj with
  |0,_=>exact⟨_,rfl,TR.int _ _⟩
  |1,_=>exact⟨_,rfl,TR.int _ _⟩
 |1,_=>exact⟨_,rfl,TR.int _ _⟩
theorem res72{ι:Map}{w:World}{e:Int}{v:Value}(h:VR ι w (.c (.t (.int .i64 e))) v):v=.int .i64 e:=by have h:TR ι.un w (.int .i64 e) v:=h;cases h;rfl
theorem res91{ι:Map}{w:World}{a b c e:Int}{v:Value}(h:VR ι w (.tup [.inr [.t (.int .i64 a),.t (.int .u64 b),.t (.int .u64 c)],.inl (.t (.int .i64 e))]) v):v=.tuple #[.agg #[.int .i64 a,.int .u64 b,.int .u64 c],.int .i64 e]:=by
 obtain⟨arr,rfl,h1,h2⟩:=h;obtain⟨u0,e0,g0⟩:=h2 0 (by simp);obtain⟨u1,e1,g1⟩:=h2 1 (by simp);have g1:TR ι.un w (.int .i64 e) u1:=g1;cases g1;obtain⟨ar,rfl,k1,k2⟩:=g0;obtain⟨x0,f0,l0⟩:=k2 0 (by simp);obtain⟨x1,f1,l1⟩:=k2 1 (by simp);obtain⟨x2,f2,l2⟩:=k2 2 (by simp);have l0:TR ι.un w (.int .i64 a) x0:=l0;have l1:TR ι.un w (.int .u64 b) x1:=l1;have l2:TR ι.un w (.int .u64 c) x2:=l2;cases l0;cases l1;cases l2;have ea:ar= #[.int .i64 a,.int .u64 b,.int .u64 c]:=by
  refine Bt (by simpa using k1) λi hi _=> ?_;have hi:i<3:=by simpa [k1] using hi
  match i,hi with
  |0,_=>exact(WF.1 f0).2
  |1,_=>exact(WF.1 f1).2
  |2,_=>exact(WF.1 f2).2
 congr 1;refine Bt (by simpa using h1) λi hi _=> ?_;have hi:i<2:=by simpa [h1] using hi
 match i,hi with
 |0,_=>rw[(WF.1 e0).2,ea];rfl
 |1,_=>exact(WF.1 e1).2
theorem resOut{ι:Map}{w:World}{t:T}{v:Value}{e:Int}(h:TR ι.un w t v):VR ι w (.tup [.inl (.t t),.inl (.t (.int .i64 e))]) (.tuple #[v,.int .i64 e]):=by
 refine⟨_,rfl,rfl,λi hi=> ?_⟩;have hi:i<2:=hi
 match i,hi with
 |0,_=>exact⟨_,rfl,h⟩
 |1,_=>exact⟨_,rfl,TR.int _ _⟩
theorem un_new{ι:Map}{w:World}(hH:HR ι [] w){b:Nat}(hb:w.heap.size<=b):ι.un b:=by
 rintro(⟨id,s,l,h,_⟩|h)
 ·rw[hH.empty id]at h;cases h
 ·have:=(hH.resRow b h).lt;omega
theorem known:QM Try.prog 61 g f m:=by
 refine⟨λ_ _=>⟨rfl,rfl⟩,by decide,λx y hy=> ?_⟩;obtain⟨n,t,ph,c,s⟩:=x;unfold m at hy;obtain⟨e1,he1,hy⟩:=JN hy;have h72:Qo Try.prog 72 [.agg [.t (.int .i64 n),.t (.int .u64 t),.t (.imm (ph.flatMap (Ly.int .u64).trees) ph.length none),.t (.int .i64 c)]] [] λv τ=>v=.c (.t (.int .i64 e1))/\τ=[]:=M72.known.ok ⟨n,t,ph,c⟩ e1 he1;show Qo Try.prog 61 [.agg [.t (.int .i64 n),.t (.int .u64 t),.t (.imm (ph.flatMap (Ly.int .u64).trees) ph.length none),.t (.int .i64 c)],.c (.t (.int .u64 s))] [] λv τ=>v=.tup [.inl (.t (.imm (y.1.flatMap (Ly.sl (.int .u8)).trees) y.1.length none)),.inl (.t (.int .i64 y.2))]/\τ=[];refine fn_belW callable61 fun ι w cargs hH ha=> ?_;obtain⟨a,k,rfl,hel⟩:=arg_pat ha;have ha72:Ji ι w [.agg [.t (.int .i64 n),.t (.int .u64 t),.t (.imm (ph.flatMap (Ly.int .u64).trees) ph.length none),.t (.int .i64 c)]] #[.agg #[.int .i64 n,.int .u64 t,.slice a ph.length k,.int .i64 c]]:=by
  refine⟨rfl,λi hi=> ?_⟩;have hi:i<1:=hi
  match i,hi with
  |0,_=>exact ha.2 0 (by simp)
 have c72:∀w1,Bel w.heap.size w w1->Calls Try.prog 72 #[.agg #[.int .i64 n,.int .u64 t,.slice a ph.length k,.int .i64 c]] w1 λe w'=>e=.returned (.int .i64 e1)/\Bel w1.heap.size w1 w':=λw1 hb=>
  (M32.Ws h72 hH ha72 hb rfl).mono λe w' ⟨⟨I',cv,h1,h2⟩,h3⟩=>⟨by rw[h1,res72 h2],h3⟩
 cases hz1:(e1 !=0) with
 |true=>rw[hz1]at hy;cases hy;exact(expand_err1 w n t s c e1 ph a k (by simpa using hz1) c72).mono λe w' ⟨h1,h2⟩=>⟨⟨_,h1,resOut (TR.imm0 _ _ _ trivial)⟩,h2⟩
 |false=>
  obtain rfl:e1=0:=(by simpa using hz1);rw[hz1]at hy;obtain⟨y1,hy1,hy⟩:=JN hy;have h91:Qo Try.prog 91 [.agg [.t (.int .i64 n),.t (.int .u64 t)],.c (.t (.int .u64 s))] [] λv τ=>v=.tup [.inr [.t (.int .i64 y1.1),.t (.int .u64 y1.2.1),.t (.int .u64 y1.2.2.1)],.inl (.t (.int .i64 y1.2.2.2))]/\τ=[]:=M91.known.ok ⟨n,t,s⟩ y1 hy1
  have c91:∀w1,Bel w.heap.size w w1->Calls Try.prog 91 #[.agg #[.int .i64 n,.int .u64 t],.int .u64 s] w1 λe w'=>e=.returned (.tuple #[.agg #[.int .i64 y1.1,.int .u64 y1.2.1,.int .u64 y1.2.2.1],.int .i64 y1.2.2.2])/\Bel w1.heap.size w1 w':=λw1 hb=>
   (M32.Ws h91 hH (args91 ι w n t s) hb rfl).mono λe w' ⟨⟨I',cv,h1,h2⟩,h3⟩=>⟨by rw[h1,res91 h2],h3⟩
  cases hz2:(y1.2.2.2 !=0) with
  |true=>rw[hz2]at hy;cases hy;exact(expand_err2 w n t s c y1.2.2.2 undef ph a k (by simpa using hz2) _ _ _ c72 c91).mono λe w' ⟨h1,h2⟩=>⟨⟨_,h1,resOut (TR.imm0 _ _ _ trivial)⟩,h2⟩
  |false=>
   have h0:y1.2.2.2=0:=(by simpa using hz2);obtain rfl:=begin_ok hy1 h0;rw[hz2]at hy
   cases hok:okE ⟨n,t,ph,c,s⟩ with
   |false=>rw[hok]at hy;cases hy
   |true=>rw[hok]at hy;cases hy;simp only[okE,AC,By,Aj]at hok;obtain⟨⟨⟨⟨hn,hc⟩,hl⟩,hc1⟩,hc2⟩:=hok;refine(expand_ok w n t c (st n t s) (hst n t s hn) pr hpr ph a k hel hl (λh=>hc.resolve_left h) ⟨hc1,hc2⟩ c72 c91).mono ?_;rintro e w' ⟨bo,br,rb,he,ho,hb,hbr,hrb⟩;exact⟨⟨_,he,resOut (out_tree ho (un_new hH hbr) λj hj=>un_new hH (hrb j hj))⟩,hb⟩
def con:Con:=J9 g f m default
theorem con_ok:QR Try.prog 61 con:=QG known (λ_=>rfl) rfl
end M61
end
section
open Go.Abs Go.RowKit
def Wd(W:World)(b:Nat)(x:Int):Prop:=W.heap[b]? =some (.cells #[.int .u64 x] 85 (0,0))
theorem Wd.lt{W:World}{b:Nat}{x:Int}(h:Wd W b x):b<W.heap.size:=(WF.1 h).1
theorem Wd.same{W W':World}{b:Nat}{x:Int}(h:Wd W b x)(he:W'.heap[b]? =W.heap[b]?):Wd W' b x:=he.trans h
theorem Wd.cell{W:World}{b:Nat}{x:Int}(h:Wd W b x):W.cell? ⟨b,0,none⟩=some (.int .u64 x):=by have h:W.heap[b]? =some (.cells #[.int .u64 x] 85 (0,0)):=h;simp[World.cell?,h]
theorem Wd.fz{W:World}{b:Nat}{x:Int}(h:Wd W b x):W.frozen? ⟨b,0,none⟩=false:=by have h:W.heap[b]? =some (.cells #[.int .u64 x] 85 (0,0)):=h;simp[World.frozen?,h]
theorem Wd.set{W:World}{b:Nat}{x:Int}(h:Wd W b x)(y:Int):Wd (W.setCell ⟨b,0,none⟩ (.int .u64 y)) b y:=heap_setCell_same h 0 (.int .u64 y)
theorem Wd.of{W:World}{b:Nat}{cur:Array Value}{x:Int}(h:W.heap[b]? =some (.cells cur 85 (0,0)))(hs:cur.size=1)(hc:∀j,j<1->cur[j]? =some (.int .u64 x)):Wd W b x:=by
 have:cur= #[.int .u64 x]:=by refine Bt (by simpa using hs) λi hi _=> ?_;obtain rfl:i=0:=(by omega);exact(WF.1 (hc 0 (by omega))).2
 rw[this]at h;exact h
theorem int_calls{f:FuncId}{n y:Int}(hf:Qo Try.prog f [.c (.t (.int .i64 n))] [] λv τ=>v=.c (.t (.int .i64 y))/\τ=[])(W:World):Calls Try.prog f #[.int .i64 n] W λe W'=>e=.returned (.int .i64 y)/\Bel W.heap.size W W':=by
 rw[<-Az (n:=0)];refine BN (hf.2 Qf W _ (λ_ _ _ h=>by cases h) (WK W) ⟨rfl,λi hi=> ?_⟩) ?_
 ·have hi:i<1:=hi
  match i,hi with
  |0,_=>exact⟨_,rfl,TR.int _ _⟩
 ·rintro e w' ⟨v',A',I',u,rfl,⟨rfl,rfl⟩,hv,_,hs⟩;have hv:TR I'.un w' (.int .i64 y) u:=hv;cases hv;exact⟨rfl,hs.os,hs.out,hs.size,λb hb=>hs.frame b hb (Zu b)⟩
theorem info85:(Try.prog.info? 85).map (λi=>(i.zero,i.size,i.bytes))=some (some (.int .u64 0),1,8):=by kernel_rfl
theorem blank_calls{n:Int}(h:1<=n/\n<=64)(W:World):Calls Try.prog 73 #[.int .i64 n] W λe W'=>∃b,e=.returned (.agg #[.int .i64 n,.slice (some ⟨b,0,none⟩) 1 1])/\Fr (λ_=>True) W W'/\W.heap.size<=b/\∃cur,W'.heap[b]? =some (.cells cur 85 (0,0))/\cur.size=1/\∀j,j<1->cur[j]? =some (.int .u64 0):=by
 have e2:M86.m ⟨n⟩=some 1:=by have a:IntKind.i64.wrap (n+63)=n+63:=wrI (by omega) (by omega);have:(n+63).tdiv 64=1:=(by rw[Int.tdiv_eq_ediv_of_nonneg (by omega)];omega);simp only[M86.m,a,this];rfl
 have c86:∀W,Calls Try.prog 86 #[.int .i64 n] W λe W'=>e=.returned (.int .i64 1)/\Bel W.heap.size W W':=λW=>int_calls (M86.known.ok ⟨n⟩ _ e2) W;obtain⟨i1,hj,hy0,hy1,hy2⟩:=info_parts info85
 go_enter Try.func73,Try.ntmps73
 go_wp2_with (go_at_call 86;refine(c86 _).mono ?_)
 rintro e w1 ⟨rfl,hb1⟩
 go_wp2_with (first|(at_make;refine wpList_make_full _ rfl _ _ 32 rfl W.heap.size 85 i1 _ 1 Try.underlying32 hj hy0 hy1 .i64 .i64 _ _ 1 rfl rfl rfl rfl ?b2 ?b3 ?b4 ?_))
 case b2=>rw[hy2];omega
 case b3=>simp[maxLen]
 case b4=>have:=hb1.size;simp at this;omega
 intro w3 ho3 hg3;obtain⟨hf3,cur3,hc3,hs3,hz3⟩:=made (W:=w1) (z:=.int .u64 0) rfl (by simpa [Value.cells] using ho3) hg3;have hbk:w1.heap[W.heap.size]? =some (.cells #[.int .i64 0,.slice none 0 0] 34 (0,0)):=(hb1.block _ (by simp)).trans (AI _ _);have hbk3:w3.heap[W.heap.size]? =some (.cells #[.int .i64 0,.slice none 0 0] 34 (0,0)):=(hf3.keep _ (WF.1 hbk).1 trivial).trans hbk;have k0:w3.cell? ⟨W.heap.size,0,none⟩=some (.int .i64 0):=by simp[World.cell?,hbk3]
 have k1:w3.cell? ⟨W.heap.size,1,none⟩=some (.slice none 0 0):=by simp[World.cell?,hbk3]
 have k2:w3.frozen? ⟨W.heap.size,0,none⟩=false:=by simp[World.frozen?,hbk3]
 have k3:w3.frozen? ⟨W.heap.size,1,none⟩=false:=by simp[World.frozen?,hbk3]
 have hs1:W.heap.size+1<=w1.heap.size:=by have:=hb1.size;simpa using this
 go_wp2
 have z1:=heap_setCell_same hbk3 0 (.int .i64 n);have z2:=heap_setCell_same z1 1 (.slice (some ⟨w1.heap.size,0,none⟩) 1 1);have hne:w1.heap.size≠W.heap.size:=by omega
 refine Bu (results_cell_row rfl _ _ W.heap.size 34 #[.int .i64 n,.slice (some ⟨w1.heap.size,0,none⟩) 1 1] (0,0) _ rfl z2 Try.underlying34 rfl (by kernel_rfl)) rfl ⟨_,rfl,?_,by omega,cur3,?_,hs3,hz3⟩
 ·have h0:Fr (λ_=>True) W w1:=⟨hb1.os,hb1.out,Ao (by simp) hb1.size,λb hb _=>(hb1.block b (by simp;omega)).trans (Below.heap_alloc _ _ _ hb)⟩;have h1:Fr (λb=>b≠W.heap.size) W ((w3.setCell ⟨W.heap.size,0,none⟩ (.int .i64 n)).setCell ⟨W.heap.size,1,none⟩ (.slice (some ⟨w1.heap.size,0,none⟩) 1 1)):=(((h0.trans hf3).imp λ_ _ _=>trivial).trans (Fr.setCell _ _ _ (λh=>h rfl))).trans (Fr.setCell _ _ _ (λh=>h rfl));exact h1.imp λb hb _=>by omega
 ·exact(Below.heap_setCell _ _ _ _ hne).trans ((Below.heap_setCell _ _ _ _ hne).trans hc3)
theorem results_row_tmp{P:Program}{fn:Func}{p u:Tmp}{ty:TypeId}(h:fn.results= #[.cell p ty,.tmp u])(tmps:Array Value)(w:World)(g:Nat)(t:TypeId)(cs:Array Value)(fr:Nat×Nat)(d:TypeDesc)
  (hp:tmps.getD p undef=.pointer (some ⟨g,0,none⟩)) (hg:w.heap[g]? =some (.cells cs t fr))
  (hu:P.underlying ty=some d) (hd:(match d with|.struct _|.array _ _=>true|_=>false)=true) (hi:(P.info? ty).map (·.size)=some cs.size):
  (results fn tmps).run P w=.ok (.tuple #[.agg cs,tmps.getD u undef]) w:=by
 rw[results_cell_tmp h,hp];simp[asAddr,run_loadVar_row w g t ty cs fr d hg hu hd hi,Result.andThen]
structure IsV(n:Int)(W:World)(e:Ending)(W':World):Prop where
 ex:∃b,e=.returned (.agg #[.int .i64 n,.slice (some ⟨b,0,none⟩) 1 1])/\Fr (λ_=>True) W W'/\W.heap.size<=b/\∃cur,W'.heap[b]? =some (.cells cur 85 (0,0))/\cur.size=1/\∀j,j<1->cur[j]? =some (.int .u64 0)
structure IsZ(n:Int)(W:World)(e:Ending)(W':World):Prop where
 ex:∃b,e=.returned (.tuple #[.agg #[.int .i64 n,.slice (some ⟨b,0,none⟩) 1 1],.int .i64 0])/\Fr (λ_=>True) W W'/\W.heap.size<=b/\∃cur,W'.heap[b]? =some (.cells cur 85 (0,0))/\cur.size=1/\∀j,j<1->cur[j]? =some (.int .u64 0)
theorem zero_calls{n:Int}(h:1<=n/\n<=64)(W:World):Calls Try.prog 51 #[.int .i64 n] W (IsZ n W):=by
 have e1:M85.m ⟨n⟩=some 0:=by have a:decide (n<0)=false:=A6 (by omega);have b:decide (n>4096)=false:=A6 (by omega);simp only[M85.m,a,b];rfl
 have c85:∀W,Calls Try.prog 85 #[.int .i64 n] W λe W'=>e=.returned (.int .i64 0)/\Bel W.heap.size W W':=λW=>int_calls (M85.known.ok ⟨n⟩ _ e1) W
 go_enter Try.func51,Try.ntmps51
 go_wp2_with (go_at_call 85;refine(c85 _).mono ?_)
 rintro e w1 ⟨rfl,hb1⟩
 go_wp2_with (go_at_call 73;refine((blank_calls h w1).mono λ_ _ h=>IsV.mk h).mono ?_)
 rintro e w3 ⟨⟨b,rfl,hf3,hnew,cur3,hc3,hs3,hz3⟩⟩;have hbk:w1.heap[W.heap.size]? =some (.cells #[.int .i64 0,.slice none 0 0] 34 (0,0)):=(hb1.block _ (by simp)).trans (AI _ _);have hbk3:w3.heap[W.heap.size]? =some (.cells #[.int .i64 0,.slice none 0 0] 34 (0,0)):=(hf3.keep _ (WF.1 hbk).1 trivial).trans hbk;have k0:w3.cell? ⟨W.heap.size,0,none⟩=some (.int .i64 0):=by simp[World.cell?,hbk3]
 have k1:w3.cell? ⟨W.heap.size,1,none⟩=some (.slice none 0 0):=by simp[World.cell?,hbk3]
 have k2:w3.frozen? ⟨W.heap.size,0,none⟩=false:=by simp[World.frozen?,hbk3]
 have k3:w3.frozen? ⟨W.heap.size,1,none⟩=false:=by simp[World.frozen?,hbk3]
 have hs1:W.heap.size+1<=w1.heap.size:=by have:=hb1.size;simpa using this
 go_wp2
 have z1:=heap_setCell_same hbk3 0 (.int .i64 n);have z2:=heap_setCell_same z1 1 (.slice (some ⟨b,0,none⟩) 1 1);have hne:b≠W.heap.size:=by omega
 refine Bu (results_row_tmp rfl _ _ W.heap.size 34 #[.int .i64 n,.slice (some ⟨b,0,none⟩) 1 1] (0,0) _ rfl z2 Try.underlying34 rfl (by kernel_rfl)) rfl ⟨_,rfl,?_,by omega,cur3,?_,hs3,hz3⟩
 ·have h0:Fr (λ_=>True) W w1:=⟨hb1.os,hb1.out,Ao (by simp) hb1.size,λb hb _=>(hb1.block b (by simp;omega)).trans (Below.heap_alloc _ _ _ hb)⟩;have h1:Fr (λb=>b≠W.heap.size) W ((w3.setCell ⟨W.heap.size,0,none⟩ (.int .i64 n)).setCell ⟨W.heap.size,1,none⟩ (.slice (some ⟨b,0,none⟩) 1 1)):=(((h0.trans hf3).imp λ_ _ _=>trivial).trans (Fr.setCell _ _ _ (λh=>h rfl))).trans (Fr.setCell _ _ _ (λh=>h rfl));exact h1.imp λb hb _=>by omega
 ·exact(Below.heap_setCell _ _ _ _ hne).trans ((Below.heap_setCell _ _ _ _ hne).trans hc3)
end
section
open Go.Abs Go.RowKit
def rowsL(n:Int)(rb:Nat->Nat)(m:Nat):List Value:=(List.range m).flatMap λk=>[.int .i64 n,.slice (some ⟨rb k,0,none⟩) 1 1]
theorem rowsL_succ(n:Int)(rb:Nat->Nat)(m:Nat):rowsL n rb (m+1)=rowsL n rb m++[.int .i64 n,.slice (some ⟨rb m,0,none⟩) 1 1]:=by simp[rowsL,Bp,CZ]
theorem rowsL_length(n:Int)(rb:Nat->Nat)(m:Nat):(rowsL n rb m).length=m*2:=by
 induction m with
 |zero=>rfl
 |succ m ih=>rw[rowsL_succ,Ab,ih];simp;omega
theorem rowsL_congr(n:Int){rb rb':Nat->Nat}{m:Nat}(h:∀k,k<m->rb k=rb' k):rowsL n rb m=rowsL n rb' m:=by
 induction m with
 |zero=>rfl
 |succ m ih=>rw[rowsL_succ,rowsL_succ,ih λk hk=>h k (by omega),h m (by omega)]
theorem rowsL_get(n:Int)(rb:Nat->Nat){m k:Nat}(hk:k<m):(rowsL n rb m)[2*k]? =some (.int .i64 n)/\(rowsL n rb m)[2*k+1]? =some (.slice (some ⟨rb k,0,none⟩) 1 1):=by
 induction m with
 |zero=>omega
 |succ m ih=>
  rw[rowsL_succ];by_cases e:k=m
  ·subst e;rw[AT (by rw[rowsL_length];omega),AT (by rw[rowsL_length];omega),rowsL_length];have e1:2*k - k*2=0:=(by omega);have e2:2*k+1 - k*2=1:=(by omega);rw[e1,e2];exact⟨rfl,rfl⟩
  ·rw[AK (by rw[rowsL_length];omega),AK (by rw[rowsL_length];omega)];exact ih (by omega)
structure EqAt(W:World)(bo:Nat)(n:Int)(v:Value)(m:Nat)(rb:Nat->Nat)(val:Nat->Int):Prop where
 box:W.heap[bo]? =some (.cells #[.int .i64 n,v] 40 (0,0))
 own:W.ownsRow (bo+1) 34 2 v m (rowsL n rb m)
 row:∀j,j<m->Wd W (rb j) (val j)
 apart:∀j j',j<m->j'<m->rb j=rb j'->j=j'
 low:∀j,j<m->bo<rb j
theorem own_wd{W:World}{B n:Nat}{v:Value}{xs:List Value}{b:Nat}{x:Int}(h:W.ownsRow B 34 2 v n xs)(hw:Wd W b x):v.ownBlock≠some b:=λe=>by
 have hw:W.heap[b]? =some (.cells #[.int .u64 x] 85 (0,0)):=hw;rcases h.2 with ⟨rfl,_⟩|⟨g,cap,cur,rfl,_,g3,_⟩
 ·cases e
 ·injection e with e;have e:g=b:=e;rw[e,hw]at g3;cases g3
theorem EqAt.same{W W':World}{bo:Nat}{n:Int}{v:Value}{m:Nat}{rb:Nat->Nat}{val:Nat->Int}(h:EqAt W bo n v m rb val){B:Nat}(hB:W.heap.size<=B)(hf:Fr (· <B) W W'):EqAt W' bo n v m rb val:=by
 obtain⟨h1,h2,h3,h4,h5⟩:=h;have hk:∀b,b<W.heap.size->W'.heap[b]? =W.heap[b]? :=λb hb=>hf.keep b hb (by omega);refine⟨(hk _ (WF.1 h1).1).trans h1,⟨h2.1,?_⟩,λj hj=>(h3 j hj).same (hk _ (h3 j hj).lt),h4,h5⟩;rcases h2.2 with h|⟨g,cap,cur,g1,g2,g3,g4⟩
 ·exact .inl h
 ·exact .inr ⟨g,cap,cur,g1,g2,(hk _ (WF.1 g3).1).trans g3,g4⟩
theorem EqAt.congr{W:World}{bo:Nat}{n:Int}{v:Value}{m:Nat}{rb:Nat->Nat}{val val':Nat->Int}(h:EqAt W bo n v m rb val)(he:∀j,j<m->val j=val' j):EqAt W bo n v m rb val':=
 ⟨h.box,h.own,λj hj=>he j hj▸h.row j hj,h.apart,h.low⟩
theorem EqAt.cells{W:World}{bo:Nat}{n:Int}{v:Value}{m:Nat}{rb:Nat->Nat}{val:Nat->Int}(h:EqAt W bo n v m rb val){j:Nat}(hj:j<m):
  ∃g cap,v=.slice (some ⟨g,0,none⟩) m cap/\bo<g/\g<W.heap.size/\W.cell? ⟨bo,1,none⟩=some v/\W.cell? ⟨g,2*j+1,none⟩=some (.slice (some ⟨rb j,0,none⟩) 1 1):=by
 rcases h.own.2 with ⟨_,h0⟩|⟨g,cap,cur,g1,g2,g3,g4,g5,g6,g7⟩
 ·omega
 ·refine⟨g,cap,g1,g2,(WF.1 g3).1,by simp[World.cell?,h.box],?_⟩;have h1:=(rowsL_get n rb hj).2;rw[<-g7,Cc]at h1;rw[AB (by omega)]at h1;have h2:cur[2*j+1]? =some (.slice (some ⟨rb j,0,none⟩) 1 1):=(by rw[<-h1];simp);simp[World.cell?,g3,h2]
theorem EqAt.set{W:World}{bo:Nat}{n:Int}{v:Value}{m:Nat}{rb:Nat->Nat}{val:Nat->Int}(h:EqAt W bo n v m rb val){j:Nat}(hj:j<m)(x:Int):
  EqAt (W.setCell ⟨rb j,0,none⟩ (.int .u64 x)) bo n v m rb (λj'=>if j'=j then x else val j'):=by
 have hv:=own_wd h.own (h.row j hj);obtain⟨h1,h2,h3,h4,h5⟩:=h;have hk:∀b,b≠rb j->(W.setCell ⟨rb j,0,none⟩ (.int .u64 x)).heap[b]? =W.heap[b]? :=λb hb=>Below.heap_setCell W _ _ _ hb;refine⟨(hk _ (by have:=h5 j hj;omega)).trans h1,⟨h2.1,?_⟩,λj' hj'=> ?_,h4,h5⟩
 ·rcases h2.2 with h|⟨g,cap,cur,g1,g2,g3,g4⟩
  ·exact .inl h
  ·refine .inr ⟨g,cap,cur,g1,g2,(hk _ (λe=>hv ?_)).trans g3,g4⟩;rw[g1,<-e];rfl
 ·by_cases e:j'=j
  ·subst e;rw[AB rfl];exact(h3 j' hj').set x
  ·rw[AE e];exact(h3 j' hj').same (hk _ λhe=>e (h4 _ _ hj' hj he))
theorem EqAt.push{W W':World}{bo:Nat}{n:Int}{v v':Value}{m:Nat}{rb:Nat->Nat}{val:Nat->Int}(h:EqAt W bo n v m rb val){b:Nat}{x:Int}(hg:W.grownBy W' v.ownBlock)
  (ho:W'.ownsRow (bo+1) 34 2 v' (m+1) (rowsL n rb m++[.int .i64 n,.slice (some ⟨b,0,none⟩) 1 1])) (hw:Wd W b x) (hb:bo<b) (hn:∀j,j<m->rb j≠b):
  ∀W'',Fr (λb=>b≠bo) W' W''->W''.heap[bo]? =some (.cells #[.int .i64 n,v'] 40 (0,0))->EqAt W'' bo n v' (m+1) (λk=>if k=m then b else rb k) (λk=>if k=m then x else val k):=by
 intro W'' hf hbx;have hv:∀j,j<m->v.ownBlock≠some (rb j):=λj hj=>own_wd h.own (h.row j hj);have hvb:v.ownBlock≠some b:=own_wd h.own hw;obtain⟨h1,h2,h3,h4,h5⟩:=h;have hlb:=(WF.1 h1).1;have hk:∀k,k<W.heap.size->k≠bo->v.ownBlock≠some k->W''.heap[k]? =W.heap[k]? :=λk hk hkb hkv=>(hf.keep k (AL hk hg.size) hkb).trans (hg.block k hk (BU hkv));have he:rowsL n rb m++[.int .i64 n,.slice (some ⟨b,0,none⟩) 1 1]=rowsL n (λk=>if k=m then b else rb k) (m+1):=by rw[rowsL_succ];simp only[Ai];congr 1;exact rowsL_congr n λk hk=>by rw[AE (by omega)]
 refine⟨hbx,?_,λj hj=> ?_,λj j' hj hj' he=> ?_,λj hj=> ?_⟩
 ·rw[<-he];refine⟨ho.1,?_⟩;rcases ho.2 with h|⟨g,cap,cur,g1,g2,g3,g4⟩
  ·exact .inl h
  ·exact .inr ⟨g,cap,cur,g1,g2,(hf.keep _ (WF.1 g3).1 (by omega)).trans g3,g4⟩
 ·by_cases e:j=m
  ·subst e;simp only[Ai];exact hw.same (hk b hw.lt (by omega) hvb)
  ·simp only[AE e];have hj:j<m:=(by omega);exact(h3 j hj).same (hk _ (h3 j hj).lt (by have:=h5 j hj;omega) (hv j hj))
 ·by_cases e:j=m
  ·by_cases e':j'=m
   ·omega
   ·simp only[AB e,AE e']at he;exact absurd he.symm (hn j' (by omega))
  ·by_cases e':j'=m
   ·simp only[AB e',AE e]at he;exact absurd he (hn j (by omega))
   ·simp only[AE e,AE e']at he;exact h4 _ _ (by omega) (by omega) he
 ·by_cases e:j=m
  ·subst e;simp only[Ai];exact hb
  ·simp only[AE e];exact h5 j (by omega)
def bor(x y:Int):Int:=IntKind.u64.wrap (↑(BitVec.ofInt 64 x|||BitVec.ofInt 64 y).toNat:Int)
theorem or_walk(W:World)(bo bd bk:Nat)(n:Int)(v:Value)(m:Nat)(rb:Nat->Nat)(val:Nat->Int)(h:EqAt W bo n v m rb val)(j i c k:Nat)(hr:j*c+i<m)(hm:m<=16777216)(hj:j<4097)(hc:c<4097)(x:Int)
  (hd:W.cell? ⟨bd,3,none⟩=some (.int .i64 c)) (hk:W.cell? ⟨bk,0,none⟩=some (.int .i64 k)):
  Calls Try.prog 111 #[.int .i64 j,.int .i64 i,.int .u64 x,.pointer (some ⟨bo,0,none⟩),.pointer (some ⟨bd,0,none⟩),.pointer (some ⟨bk,0,none⟩)] W λe W'=>(∃v,e=.returned v)/\
   W'=(W.setCell ⟨rb (j*c+i),0,none⟩ (.int .u64 (bor (val (j*c+i)) (IntKind.u64.wrap (x*2^min k 64))))).drew:=by
 obtain⟨g,cap,rfl,_,_,c1,c2⟩:=h.cells hr;have c3:=(h.row _ hr).cell;have c4:=(h.row _ hr).fz;generalize rb (j*c+i)=r at c2 c3 c4⊢;generalize val (j*c+i)=y at c3⊢;have hjc:j*c<=16777216:=by omega
 generalize hp:j*c=p at*
 have e1:IntKind.i64.wrap ((j:Int)*c)=p:=by rw[<-hp];have:((j:Int)*c)=((j*c:Nat):Int):=(by simp);rw[this,hp];exact wrI (by omega) (by omega)
 have e2:IntKind.i64.wrap ((p:Int)+i)=((p+i:Nat):Int):=by rw[wrI (by omega) (by omega)];omega
 clear h
 go_enter Try.func111,Try.ntmps111
 rw[CI 2]at c2
 go_region
 go_end0
 exact⟨⟨_,rfl⟩,rfl⟩
end
