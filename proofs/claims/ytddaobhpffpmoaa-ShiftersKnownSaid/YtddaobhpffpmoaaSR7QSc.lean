/- A part of the proof. -/
import Derived.Test.YtddaobhpffpmoaaSR7QSb
set_option linter.all false
set_option maxRecDepth 100000
set_option maxHeartbeats 4000000
noncomputable section
namespace Go.Proofs.Ytddaobhpffpmoaa
section
open Go.Abs Go.RowKit
def rowV(st:Int->Nat->Int)(pr:Int->Int)(ph:List Int)(c:Nat):Nat->Nat->Int
 |0,_=>0
 |k+1,r=>bor (rowV st pr ph c k r) (IntKind.u64.wrap (pr (band (st (IntKind.u64.wrap (1*2^min k 64)) (c - 1 - r%c)) (ph[r / c]?.getD 0))*2^min k 64))
def partR(st:Int->Nat->Int)(pr:Int->Int)(ph:List Int)(c k t j r:Nat):Int:=
 if c - 1 - r%c<t\/(c - 1 - r%c=t/\r / c<j) then rowV st pr ph c (k+1) r else rowV st pr ph c k r
theorem EqAt.fr{W W':World}{bo:Nat}{n:Int}{v:Value}{m:Nat}{rb:Nat->Nat}{val:Nat->Int}(h:EqAt W bo n v m rb val){B:Nat}(hp:bo<B/\(∀g,v.ownBlock=some g->g<B)/\∀j,j<m->rb j<B)(hf:Fr (· <B) W W'):EqAt W' bo n v m rb val:=by
 obtain⟨h1,h2,h3,h4,h5⟩:=h;refine⟨(hf.keep _ (WF.1 h1).1 hp.1).trans h1,⟨h2.1,?_⟩,λj hj=>(h3 j hj).same (hf.keep _ (h3 j hj).lt (hp.2.2 j hj)),h4,h5⟩;rcases h2.2 with h|⟨g,cap,cur,g1,g2,g3,g4⟩
 ·exact .inl h
 ·exact .inr ⟨g,cap,cur,g1,g2,(hf.keep _ (WF.1 g3).1 (hp.2.1 g (by rw[g1];rfl))).trans g3,g4⟩
theorem EqAt.keepNe{W W':World}{bo:Nat}{n:Int}{v:Value}{m:Nat}{rb:Nat->Nat}{val:Nat->Int}(h:EqAt W bo n v m rb val){b:Nat}(hp:b<bo)(hf:Fr (· ≠b) W W'):EqAt W' bo n v m rb val:=by
 obtain⟨h1,h2,h3,h4,h5⟩:=h;refine⟨(hf.keep _ (WF.1 h1).1 (by omega)).trans h1,⟨h2.1,?_⟩,λj hj=>(h3 j hj).same (hf.keep _ (h3 j hj).lt (by have:=h5 j hj;omega)),h4,h5⟩;rcases h2.2 with h|⟨g,cap,cur,g1,g2,g3,g4⟩
 ·exact .inl h
 ·exact .inr ⟨g,cap,cur,g1,g2,(hf.keep _ (WF.1 g3).1 (by omega)).trans g3,g4⟩
theorem EqAt.lt{W:World}{bo:Nat}{n:Int}{v:Value}{m:Nat}{rb:Nat->Nat}{val:Nat->Int}(h:EqAt W bo n v m rb val):bo<W.heap.size/\(∀g,v.ownBlock=some g->g<W.heap.size)/\∀j,j<m->rb j<W.heap.size:=by
 refine⟨(WF.1 h.box).1,λg hg=> ?_,λj hj=>(h.row j hj).lt⟩;rcases h.own.2 with ⟨rfl,_⟩|⟨g',cap,cur,rfl,g2,g3,g4⟩
 ·cases hg
 ·injection hg with e;have e:g'=g:=e;rw[<-e];exact(WF.1 g3).1
theorem divmod{c j i:Nat}(h:i<c):(j*c+i) / c=j/\(j*c+i)%c=i:=by
 have hc:0<c:=by omega
 refine⟨?_,?_⟩
 ·rw[CI,Nat.mul_add_div hc,Nat.div_eq_of_lt h,BZ]
 ·rw[CI,Nat.mul_add_mod,Bi h]
theorem eqs_each(wr:World)(N T:Int)(c:Nat)(ph:List Int)(pa:Option Addr)(pc B bo bd bk:Nat)(v:Value)(rb:Nat->Nat)(st:Int->Nat->Int)(hst0:∀s,st s 0=s)(hst:∀s k,M93.m ⟨N,T,st s k⟩=some (N,T,st s (k+1)))(pr:Int->Int)(hpr:∀x y,M110.m ⟨band x y⟩=some (pr (band x y)))
  (hp0:ph≠[]) (hpl:ph.length<=4096) (hc:c<=4096) (k:Nat) (hE:EqAt wr bo N v (ph.length*c) rb (rowV st pr ph c k)) (hels:ElsU wr B pa ph) (hB:B<=bd) (hbd:bd<bo) (hd:wr.heap[bd]? =some (.cells #[.int .i64 N,.int .u64 T,.slice pa ph.length pc,.int .i64 c] 102 (0,0))) (hk:wr.heap[bk]? =some (.cells #[.int .i64 k] 3 (0,0))) (s0:Int) (hs0:s0=IntKind.u64.wrap (1*2^min k 64)):
  Calls Try.prog 94 #[.agg #[.int .i64 N,.int .u64 T,.slice pa ph.length pc,.int .i64 c],.agg #[.int .i64 N,.int .u64 T,.int .u64 s0],.func (.func 111) #[] #[.pointer (some ⟨bo,0,none⟩),.pointer (some ⟨bd,0,none⟩),.pointer (some ⟨bk,0,none⟩)]] wr λe W'=>
   (∃v,e=.returned v)/\EqAt W' bo N v (ph.length*c) rb (rowV st pr ph c (k+1))/\Fr (· <=bo) wr W':=by
 subst hs0;have hlt:=hE.lt;have hbk:=(WF.1 hk).1;have hMb:ph.length*c<=16777216:=Ao (Nat.mul_le_mul hpl hc) (by decide);have key:=each_walk 0 wr N T c ph pa pc 111 #[.pointer (some ⟨bo,0,none⟩),.pointer (some ⟨bd,0,none⟩),.pointer (some ⟨bk,0,none⟩)] (st (IntKind.u64.wrap (1*2^min k 64))) (hst _) pr hpr (λh=>by omega) hpl (enters_of Try.func111 (by kernel_rfl) rfl)
  (λt j W=>EqAt W bo N v (ph.length*c) rb (partR st pr ph c k t j)/\ElsU W B pa ph/\W.heap[bd]? =some (.cells #[.int .i64 N,.int .u64 T,.slice pa ph.length pc,.int .i64 c] 102 (0,0))/\W.heap[bk]? =some (.cells #[.int .i64 k] 3 (0,0))/\Fr (· <=bo) wr W)
  (λt j W W' h hf=>⟨h.1.fr hlt hf,h.2.1.fr (hf.imp λb _ hb=>by omega),(hf.keep _ (WF.1 h.2.2.1).1 (by omega)).trans h.2.2.1,(hf.keep _ (WF.1 h.2.2.2.1).1 hbk).trans h.2.2.2.1,h.2.2.2.2.trans (hf.imp λb _ hb=>by omega)⟩)
  (λt j W h i hi=>by obtain⟨b,off,h1,_,_,h2⟩:=h.2.1 i hi;exact⟨b,off,h1,h2⟩)
  (λt j W htc hj h=>by
   obtain⟨h1,h2,h3,h4,h5⟩:=h;have htc:t<c:=(by omega);have hi:c - 1 - t<c:=(by omega);have he:(c:Int) - 1 - t=((c - 1 - t:Nat):Int):=(by omega);have hr:j*c+(c - 1 - t)<ph.length*c:=(by have:=Ae c (show j+1<=ph.length by omega);rw[As]at this;omega);have hdv:=divmod (j:=j) hi;rw[he];refine(or_walk W bo bd bk N v _ rb _ h1 j (c - 1 - t) c k hr hMb (by omega) (by omega) (pr (band (st (IntKind.u64.wrap (1*2^min k 64)) t) ph[j])) (by simp[World.cell?,h3]) (by simp[World.cell?,h4])).mono ?_;rintro e W' ⟨hv,rfl⟩;have hrw:=h1.row _ hr;have hne1:rb (j*c+(c - 1 - t))≠bk:=λe=>(by have hrw:W.heap[_]? =some _:=hrw;rw[e,h4]at hrw;cases hrw);have hlo:=h1.low _ hr;have hrl:=hlt.2.2 _ hr;have hf:∀p:Nat->Prop,¬p (rb (j*c+(c - 1 - t)))->∀x,Fr p W (W.setCell ⟨rb (j*c+(c - 1 - t)),0,none⟩ x).drew:=λp hp x=>(Fr.setCell _ _ _ hp).trans (Fr.drew _ _);refine⟨hv,⟨?_,h2.fr (hf (· <B) (by show¬_<B;omega) _),?_,?_,h5.trans (hf (· <=bo) (by show¬_<=bo;omega) _)⟩,hf (wr.heap.size<=·) (by show¬_<=_;omega) _⟩
   ·have h6:=((h1.set hr (bor (partR st pr ph c k t j (j*c+(c - 1 - t))) (IntKind.u64.wrap (pr (band (st (IntKind.u64.wrap (1*2^min k 64)) t) ph[j])*2^min k 64)))).same (A9 _) (Fr.drew _ _)).congr (val':=partR st pr ph c k t (j+1)) λr hr'=> ?_
    ·exact h6
    ·unfold partR;by_cases e:r=j*c+(c - 1 - t)
     ·subst e;rw[AB rfl,hdv.1,hdv.2,AE (by omega),AB (by omega)];show _=bor _ _;rw[hdv.1,hdv.2];have e2:c - 1 - (c - 1 - t)=t:=(by omega);rw[e2,A3 hj];rfl
     ·rw[AE e];have hx:¬(c - 1 - r%c=t/\r / c=j):=λ⟨a,b⟩=>e (by
       have h7:=Nat.div_add_mod r c;have h8:=Aq r (show 0<c by omega);rw[b,CI]at h7;omega)
      have:(c - 1 - r%c<t\/(c - 1 - r%c=t/\r / c<j))↔(c - 1 - r%c<t\/(c - 1 - r%c=t/\r / c<j+1)):=(by omega);simp only[this]
   ·exact((hf (· ≠rb (j*c+(c - 1 - t))) (λh=>h rfl) _).keep _ (WF.1 h3).1 (by omega)).trans h3
   ·exact((hf (· ≠rb (j*c+(c - 1 - t))) (λh=>h rfl) _).keep _ (WF.1 h4).1 (BU hne1)).trans h4)
  (λt W h=>⟨h.1.congr λr hr=>by
   unfold partR;have h1:r / c<ph.length:=CV (by rwa [CI]);generalize r / c=q at h1⊢;generalize r%c=u;have:(c - 1 - u<t\/(c - 1 - u=t/\q<ph.length))↔(c - 1 - u<t+1\/(c - 1 - u=t+1/\q<0)):=(by omega);simp only[this],h.2⟩)
  ⟨hE.congr λr hr=>by
   unfold partR;generalize r / c=q;generalize r%c=u;rw[AE (by omega)],hels,hd,hk,Fr.refl _ _⟩ _ rfl
 rw[hst0]at key;refine Az.1 (key.mono ?_);rintro e W' ⟨hv,h1,_,_,_,h5⟩;refine⟨hv,h1.congr λr hr=> ?_,h5⟩;unfold partR;have hc0:0<c:=Nat.pos_of_ne_zero λe=>by rw[e,Nat.mul_zero]at hr;omega
 rw[AE hp0,A8,AB (.inl (by omega))]
theorem info34:(Try.prog.info? 34).map (λi=>(i.zero,i.size,i.bytes))=some (some (.agg #[.int .i64 0,.slice none 0 0]),2,32):=by kernel_rfl
theorem eqs_ok(w:World)(N T:Int)(c:Nat)(st:Int->Nat->Int)(hst0:∀s,st s 0=s)(hst:∀s k,M93.m ⟨N,T,st s k⟩=some (N,T,st s (k+1)))(pr:Int->Int)(hpr:∀x y,M110.m ⟨band x y⟩=some (pr (band x y)))(ph:List Int)(pa:Option Addr)(pc:Nat)(hph:ElsU w w.heap.size pa ph)(hpl:ph.length<=4096)(hp0:ph≠[])(hc:c<=4096)(hN:1<=N/\N<=64):
  Calls Try.prog 97 #[.agg #[.int .i64 N,.int .u64 T,.slice pa ph.length pc,.int .i64 c]] w λe w'=>∃bo v rb,e=.returned (.agg #[.int .i64 N,v])/\EqAt w' bo N v (ph.length*c) rb (rowV st pr ph c N.toNat)/\Bel w.heap.size w w'/\w.heap.size<=bo:=by
 have hp2:(((ph.length:Nat):Int)==0)=false:=by rw[At];intro e;exact hp0 (AN.1 (by omega))
 have hMb:ph.length*c<=16777216:=Ao (Nat.mul_le_mul hpl hc) (by decide);have hM:IntKind.i64.wrap ((ph.length:Int)*c)=((ph.length*c:Nat):Int):=by rw[<-Int.natCast_mul];exact wrI (by omega) (by omega)
 obtain⟨i0,hi,hz0,hz1,hz2⟩:=info_parts info34
 go_enter Try.func97,Try.ntmps97
 go_wp2
 obtain⟨W0,hW0⟩:∃W0,(((w.alloc (.cells #[.int .i64 N,.int .u64 T,.slice pa ph.length pc,.int .i64 c] 102)).alloc (.cells #[.int .i64 0,.slice none 0 0] 40)).alloc (.cells #[.int .i64 N,.slice none 0 0] 40))=W0:=⟨_,rfl⟩;have hF0:Fr (λ_=>True) w W0:=by rw[<-hW0];exact((Fr.alloc _ _ _).trans (Fr.alloc _ _ _)).trans (Fr.alloc _ _ _)
 have hd0:W0.heap[w.heap.size]? =some (.cells #[.int .i64 N,.int .u64 T,.slice pa ph.length pc,.int .i64 c] 102 (0,0)):=by rw[<-hW0,Below.heap_alloc _ _ _ (by simp;omega),Below.heap_alloc _ _ _ (by simp)];exact AI _ _
 have hr0:W0.heap[w.heap.size+1]? =some (.cells #[.int .i64 0,.slice none 0 0] 40 (0,0)):=by rw[<-hW0,Below.heap_alloc _ _ _ (by simp)];have:=AI (w.alloc (.cells #[.int .i64 N,.int .u64 T,.slice pa ph.length pc,.int .i64 c] 102)) (.cells #[.int .i64 0,.slice none 0 0] 40);rwa [AU]at this
 have ho0:EqAt W0 (w.heap.size+1+1) N (.slice none 0 0) 0 (λ_=>0) (λ_=>0):=by refine⟨?_,⟨rfl,.inl ⟨rfl,rfl⟩⟩,λj hj=>absurd hj (BA _),λj _ hj=>absurd hj (BA _),λj hj=>absurd hj (BA _)⟩;rw[<-hW0];have:=AI ((w.alloc (.cells #[.int .i64 N,.int .u64 T,.slice pa ph.length pc,.int .i64 c] 102)).alloc (.cells #[.int .i64 0,.slice none 0 0] 40)) (.cells #[.int .i64 N,.slice none 0 0] 40);rwa [AU,AU]at this
 rw[hW0];clear hW0;have hs0:=(WF.1 ho0.box).1;generalize hbd:w.heap.size=bd at*
 go_loopw [22] (λp wr=>∃(j:Nat) (rb:Nat->Nat) (v:Value),p=.int .i64 j/\j<=ph.length*c/\EqAt wr (bd+1+1) N v j rb (λ_=>0)/\Fr (· <bd+1+1) W0 wr) (λp _=>ph.length*c - (intOf p).toNat)
 case atStart=>exact⟨0,_,_,rfl,B4 _,ho0,Fr.refl _ _⟩
 case round=>
  obtain⟨j,rb,v,rfl,hj,hE,hf⟩:=hrel;have hbx:=hE.box;have hdr:wr.heap[bd]? =some (.cells #[.int .i64 N,.int .u64 T,.slice pa ph.length pc,.int .i64 c] 102 (0,0)):=(hf.keep _ (by omega) (by omega)).trans hd0;have c0:wr.cell? ⟨bd,0,none⟩=some (.int .i64 N):=(by simp[World.cell?,hdr]);by_cases hjl:j<ph.length*c
  ·go_wp2_with (go_at_call 51;refine(zero_calls hN _).mono ?_)
   rintro e w1 ⟨⟨b,rfl,hf1,hnew,cur1,hc1,hs1,hz1'⟩⟩;have hw1:Wd w1 b 0:=Wd.of hc1 hs1 hz1';have hE1:=hE.same (A9 _) (hf1.imp λ_ _ _=>trivial);have hb1:=hE1.box;have hb2:((w1.alloc (.cells #[.int .i64 N,.slice (some ⟨b,0,none⟩) 1 1] 34)).alloc (.cells #[.int .i64 N,.slice (some ⟨b,0,none⟩) 1 1] 34)).heap[bd+1+1]? =some (.cells #[.int .i64 N,v] 40 (0,0)):=(Below.heap_alloc _ _ _ (by have:=(WF.1 hb1).1;simp;omega)).trans ((Below.heap_alloc _ _ _ (WF.1 hb1).1).trans hb1);have c1:(w1.alloc (.cells #[.int .i64 N,.slice (some ⟨b,0,none⟩) 1 1] 34)).cell? ⟨bd+1+1,1,none⟩=some v:=by have:=(Below.heap_alloc w1 (.cells #[.int .i64 N,.slice (some ⟨b,0,none⟩) 1 1] 34) _ (WF.1 hb1).1).trans hb1;simp[World.cell?,this]
   go_wp2_with (at_builtin;refine CS _ rfl _ _ 38 rfl (bd+1+1+1) 34 i0 (.agg #[.int .i64 0,.slice none 0 0]) 2 32 Try.underlying38 hi hz0 hz1 hz2 rfl (by decide) v j _ rfl ((hE1.own.alloc _).alloc _) ⟨w1.heap.size+1,0,none⟩ 1 1 [.int .i64 N,.slice (some ⟨b,0,none⟩) 1 1] rfl rfl ?c1 ?c2 ?c3 ?c4 ?c5 ?_)
   case c1=>
    intro j' u hj'
    match j',hj' with
    |0,hj'=>simp at hj';subst hj';simp[Addr.add]
    |1,hj'=>simp at hj';subst hj';simp[Addr.add]
   case c2=>intro u hu;simp at hu;rcases hu with rfl|rfl<;>rfl
   case c3=>unfold maxLen;omega
   case c4=>omega
   case c5=>have:=(WF.1 hb1).1;simp;omega
   intro v' w2 hown' hgrow _;have hlb:=(WF.1 hb2).1;have hvo:v.ownBlock≠some (bd+1+1):=λe=>by
    rcases hE.own.2 with ⟨rfl,_⟩|⟨g,cap,cur,rfl,g2,_⟩
    ·cases e
    ·injection e with e;have e:g=bd+1+1:=e;omega
   have hb3:w2.heap[bd+1+1]? =some (.cells #[.int .i64 N,v] 40 (0,0)):=(hgrow.block _ hlb (BU hvo)).trans hb2;have k1:w2.cell? ⟨bd+1+1,1,none⟩=some v:=(by simp[World.cell?,hb3]);have k2:w2.frozen? ⟨bd+1+1,1,none⟩=false:=(by simp[World.frozen?,hb3]);have hlo:∀j',j'<j->rb j'≠b:=λj' hj' e=>(by have:=(hE.row j' hj').lt;omega);have hbb:bd+1+1<b:=(by have:=(WF.1 hbx).1;omega);have hE2:=(hE1.same (A9 _) (Fr.alloc _ w1 (.cells #[.int .i64 N,.slice (some ⟨b,0,none⟩) 1 1] 34))).same (A9 _) (Fr.alloc _ _ (.cells #[.int .i64 N,.slice (some ⟨b,0,none⟩) 1 1] 34));have hw2:Wd ((w1.alloc (.cells #[.int .i64 N,.slice (some ⟨b,0,none⟩) 1 1] 34)).alloc (.cells #[.int .i64 N,.slice (some ⟨b,0,none⟩) 1 1] 34)) b 0:=
    hw1.same ((Below.heap_alloc _ _ _ (by have:=hw1.lt;simp;omega)).trans (Below.heap_alloc _ _ _ hw1.lt))
   have hpush:=(hE2.push hgrow hown' hw2 hbb hlo (w2.setCell ⟨bd+1+1,1,none⟩ v') (Fr.setCell _ _ _ (λh=>h rfl)) (heap_setCell_same hb3 1 v')).congr (val':=λ_=>0) λk _=>(by by_cases e:k=j<;>simp[e]);have hfr:Fr (· <bd+1+1) W0 (w2.setCell ⟨bd+1+1,1,none⟩ v'):=by
    refine hf.trans (((hf1.imp λ_ _ _=>trivial).trans ((Fr.alloc _ _ _).trans (Fr.alloc _ _ _))).trans (Fr.trans (w1:=w2) ⟨hgrow.os,hgrow.output,hgrow.size,λk hk hkb=>hgrow.block k hk λe=> ?_⟩ (Fr.setCell _ _ _ (by simp))));rcases hE.own.2 with ⟨rfl,_⟩|⟨g,cap,cur,rfl,g2,_⟩
    ·cases e
    ·injection e with e;have e:k=g:=e;omega
   clear hE hE1 hE2 hgrow hb2 hb1 hvo;rcases hown'.2 with ⟨_,h0⟩|⟨g',cap',cur',rfl,_⟩
   ·omega
   clear hown'
   go_wp2
   go_roundw
   case rel=>exact⟨j+1,_,_,by simp,by omega,hpush,hfr⟩
   case measure=>simp[intOf];omega
  ·obtain rfl:j=ph.length*c:=by omega
   go_wp2
   clear ho0;have hbo:=(WF.1 hE.box).1;obtain⟨W1,hW1⟩:∃W1,W1=wr:=⟨_,rfl⟩;subst hW1;simp only[Int.natCast_mul]
   go_loopw [41] (λp wk=>∃k:Nat,p=.int .i64 k/\(k:Int)<=N/\EqAt wk (bd+1+1) N v (ph.length*c) rb (rowV st pr ph c k)/\Fr (· <bd+1+1) W0 wk/\W1.heap.size<=wk.heap.size) (λp _=>N.toNat - (intOf p).toNat)
   case atStart=>exact⟨0,rfl,by omega,hE,hf,A9 _⟩
   case round=>
    obtain⟨k,rfl,hk,hE,hf,hsz⟩:=hrel;have hdr:wr.heap[bd]? =some (.cells #[.int .i64 N,.int .u64 T,.slice pa ph.length pc,.int .i64 c] 102 (0,0)):=(hf.keep _ (by omega) (by omega)).trans hd0;have hdk:(wr.alloc (.cells #[.int .i64 k] 3)).heap[bd]? =some (.cells #[.int .i64 N,.int .u64 T,.slice pa ph.length pc,.int .i64 c] 102 (0,0)):=(Below.heap_alloc _ _ _ (WF.1 hdr).1).trans hdr;have d0:(wr.alloc (.cells #[.int .i64 k] 3)).cell? ⟨bd,0,none⟩=some (.int .i64 N):=(by simp[World.cell?,hdk]);have d1:(wr.alloc (.cells #[.int .i64 k] 3)).cell? ⟨bd,1,none⟩=some (.int .u64 T):=(by simp[World.cell?,hdk]);have d2:(wr.alloc (.cells #[.int .i64 k] 3)).cell? ⟨bd,2,none⟩=some (.slice pa ph.length pc):=(by simp[World.cell?,hdk]);have d3:(wr.alloc (.cells #[.int .i64 k] 3)).cell? ⟨bd,3,none⟩=some (.int .i64 c):=(by simp[World.cell?,hdk]);have hbx:=hE.box;have b0:wr.cell? ⟨bd+1+1,0,none⟩=some (.int .i64 N):=(by simp[World.cell?,hbx]);have b1:wr.cell? ⟨bd+1+1,1,none⟩=some v:=(by simp[World.cell?,hbx]);have hrr:wr.heap[bd+1]? =some (.cells #[.int .i64 0,.slice none 0 0] 40 (0,0)):=(hf.keep _ (by omega) (by omega)).trans hr0;have r0:wr.cell? ⟨bd+1,0,none⟩=some (.int .i64 0):=(by simp[World.cell?,hrr]);have r1:wr.cell? ⟨bd+1,1,none⟩=some (.slice none 0 0):=(by simp[World.cell?,hrr]);have r2:wr.frozen? ⟨bd+1,0,none⟩=false:=(by simp[World.frozen?,hrr]);have r3:wr.frozen? ⟨bd+1,1,none⟩=false:=(by simp[World.frozen?,hrr]);by_cases hkN:(k:Int)<N
    ·go_wp2
     refine wp_region_still_tail 7 (by kernel_rfl) (by kernel_rfl) ?_;obtain⟨W2,hW2⟩:∃W2,(wr.alloc (.cells #[.int .i64 k] 3)).drew=W2:=⟨_,rfl⟩
     change wpStill _ _ (wr.alloc (.cells #[.int .i64 k] 3)).drew (λa'=>wpList _ _ _ _ a' (wr.alloc (.cells #[.int .i64 k] 3)).drew) _ _
     have d0:W2.cell? ⟨bd,0,none⟩=some (.int .i64 N):=hW2▸d0;have d1:W2.cell? ⟨bd,1,none⟩=some (.int .u64 T):=hW2▸d1;have d2:W2.cell? ⟨bd,2,none⟩=some (.slice pa ph.length pc):=hW2▸d2;have d3:W2.cell? ⟨bd,3,none⟩=some (.int .i64 c):=hW2▸d3;have hk2:W2.heap[wr.heap.size]? =some (.cells #[.int .i64 k] 3 (0,0)):=hW2▸AI wr _;have kc:W2.cell? ⟨wr.heap.size,0,none⟩=some (.int .i64 k):=(by simp[World.cell?,hk2]);rw[hW2];simp only[List.take_succ_cons,List.take_zero,List.drop_succ_cons,An]
     still_step
     still_step
     still_step
     still_step
     still_step
     still_step
     still_step
     refine wpStill_nil ?_;have hE2:EqAt W2 (bd+1+1) N v (ph.length*c) rb (rowV st pr ph c k):=hW2▸((hE.same (A9 _) (Fr.alloc _ wr (.cells #[.int .i64 k] 3))).same (A9 _) (Fr.drew _ _));have hfw:Fr (λ_=>True) wr W2:=hW2▸(Fr.alloc _ _ _).trans (Fr.drew _ _);have hd2:W2.heap[bd]? =some (.cells #[.int .i64 N,.int .u64 T,.slice pa ph.length pc,.int .i64 c] 102 (0,0)):=hW2▸hdk;have hels:ElsU W2 bd pa ph:=((hph.fr (hF0.imp λ_ _ _=>trivial)).fr (hf.imp λb _ hb=>by omega)).fr (hfw.imp λ_ _ _=>trivial);have hk2:W2.heap[wr.heap.size]? =some (.cells #[.int .i64 k] 3 (0,0)):=hW2▸AI wr _
     go_wp2_with (go_at_call 94;refine(eqs_each W2 N T c ph pa pc bd (bd+1+1) bd wr.heap.size v rb st hst0 hst pr hpr hp0 hpl hc k hE2 hels (A9 _) (by omega) hd2 hk2 _ ?s0).mono ?_)
     case s0=>rw[B1 (by omega),Int.one_mul]
     rintro e w9 ⟨⟨v9,rfl⟩,ho9,hf9⟩
     go_wp2
     go_roundw
     case rel=>exact⟨k+1,by simp,by omega,ho9,(hf.trans (hfw.imp λ_ _ _=>trivial)).trans (hf9.imp λb _ hb=>by omega),Ao hsz (Ao hfw.size hf9.size)⟩
     case measure=>simp[intOf];omega
    ·obtain rfl:(k:Int)=N:=(by omega);obtain⟨a9,l9,c9,hv⟩:∃a l c,v=.slice a l c:=by rcases hE.own.2 with ⟨rfl,_⟩|⟨g,cap,cur,rfl,_⟩<;>exact⟨_,_,_,rfl⟩
     rw[hv]at b1
     go_wp2
     have z1:=heap_setCell_same hrr 0 (.int .i64 k);have z2:=heap_setCell_same z1 1 (.slice a9 l9 c9);have hfz:Fr (· ≠bd+1) wr ((wr.setCell ⟨bd+1,0,none⟩ (.int .i64 k)).setCell ⟨bd+1,1,none⟩ (.slice a9 l9 c9)):=(Fr.setCell _ _ _ (λh=>h rfl)).trans (Fr.setCell _ _ _ (λh=>h rfl));subst hv;refine Bu (results_cell_row rfl _ _ (bd+1) 40 #[.int .i64 k,.slice a9 l9 c9] (0,0) _ rfl z2 Try.underlying40 rfl (by kernel_rfl)) rfl ⟨bd+1+1,_,rfl,⟨rb,?_⟩,?_,by omega⟩
     ·exact hE.keepNe (b:=bd+1) (by omega) hfz
     ·exact((hF0.imp λ_ _ _=>trivial).trans ((hf.imp λb _ hb=>by omega).trans (hfz.imp λb _ hb=>by omega))).bel (B:=bd) (by omega)
end
section
open Go.Abs Go.RowKit
theorem pairL_length{α:Type}(f g:Nat->α)(m:Nat):((List.range m).flatMap λk=>[f k,g k]).length=m*2:=by
 induction m with
 |zero=>rfl
 |succ m ih=>rw[Bp,CZ,Ab,ih];simp;omega
theorem pairL_get{α:Type}(f g:Nat->α){m k:Nat}(hk:k<m):((List.range m).flatMap λk=>[f k,g k])[2*k]? =some (f k)/\((List.range m).flatMap λk=>[f k,g k])[2*k+1]? =some (g k):=by
 induction m with
 |zero=>omega
 |succ m ih=>
  rw[Bp,CZ];by_cases e:k=m
  ·subst e;rw[AT (by rw[pairL_length];omega),AT (by rw[pairL_length];omega),pairL_length];have e1:2*k - k*2=0:=(by omega);have e2:2*k+1 - k*2=1:=(by omega);rw[e1,e2];exact⟨rfl,rfl⟩
  ·rw[AK (by rw[pairL_length];omega),AK (by rw[pairL_length];omega)];exact ih (by omega)
theorem eqs_nil(w:World)(N T c:Int)(pa:Option Addr)(pc:Nat):
  Calls Try.prog 97 #[.agg #[.int .i64 N,.int .u64 T,.slice pa 0 pc,.int .i64 c]] w λe w'=>e=.returned (.agg #[.int .i64 N,.slice none 0 0])/\Bel w.heap.size w w':=by
 go_enter Try.func97,Try.ntmps97
 go_wp2
 have hr0:(((w.alloc (.cells #[.int .i64 N,.int .u64 T,.slice pa 0 pc,.int .i64 c] 102)).alloc (.cells #[.int .i64 N,.slice none 0 0] 40)).alloc (.cells #[.int .i64 N,.slice none 0 0] 40)).heap[w.heap.size+1]? =some (.cells #[.int .i64 N,.slice none 0 0] 40 (0,0)):=by rw[Below.heap_alloc _ _ _ (by simp)];have:=AI (w.alloc (.cells #[.int .i64 N,.int .u64 T,.slice pa 0 pc,.int .i64 c] 102)) (.cells #[.int .i64 N,.slice none 0 0] 40);rwa [AU]at this
 exact Bu (results_cell_row rfl _ _ (w.heap.size+1) 40 #[.int .i64 N,.slice none 0 0] (0,0) _ rfl hr0 Try.underlying40 rfl (by kernel_rfl)) rfl ⟨rfl,(((Fr.alloc _ _ _).trans (Fr.alloc _ _ _)).trans (Fr.alloc _ _ _)).bel (A9 _)⟩
namespace M97
structure gX where(n t:Int)(ph:List Int)(c:Int)
def g:Sg gX:=⟨[.agg [.it .i64,.it .u64,.arr (.int .u64),.it .i64]],[],λa b=>⟨a.1.1,a.1.2.1,a.1.2.2.1,a.1.2.2.2.1⟩,λx=>((x.n,(x.t,(x.ph,(x.c,())))),()),λx=>()⟩
abbrev fY:=Int×List (Int×List Int)
def f:Ft fY:=⟨none,.agg [.it .i64,.arr (.pair (.int .i64) (.sl (.int .u64)))],[],λa b=>(a.1,a.2.1),λy=>(y.1,(y.2,())),λy=>()⟩
def rows(x:gX):List (Int×List Int):=(List.range (x.ph.length*x.c.toNat)).map λr=>(x.n,[rowV (M61.st x.n x.t) M61.pr x.ph x.c.toNat x.n.toNat r])
def okE(x:gX):Bool:=decide (1<=x.n)&&decide (x.n<=64)&&decide (0<=x.c)&&decide (x.c<=4096)&&decide (x.ph.length<=4096)
def m(x:gX):Option fY:=bif x.ph.isEmpty then some (x.n,[]) else bif okE x then some (x.n,rows x) else none
theorem callable97:Jq Try.prog 97:=⟨Try.f97,Try.func97,by kernel_rfl,by kernel_rfl⟩
theorem rows_trees(n:Int)(val:Nat->Int)(M:Nat):(((List.range M).map λr=>((n,[val r]):Int×List Int)).flatMap (Ly.pair (.int .i64) (.sl (.int .u64))).trees)=(List.range M).flatMap λk=>[T.int .i64 n,T.imm [T.int .u64 (val k)] 1 none]:=by rw[List.flatMap_map];rfl
theorem eq_tree{U:Nat->Prop}{W:World}{bo:Nat}{n:Int}{v:Value}{M:Nat}{rb:Nat->Nat}{val:Nat->Int}(h:EqAt W bo n v M rb val)(hU:∀b,bo<=b->U b):
  TR U W (.imm (((List.range M).map λr=>((n,[val r]):Int×List Int)).flatMap (Ly.pair (.int .i64) (.sl (.int .u64))).trees) ((List.range M).map λr=>((n,[val r]):Int×List Int)).length none) v:=by
 rw[rows_trees,AG,Bn];rcases h.own.2 with ⟨rfl,h0⟩|⟨g,cap,cur,rfl,g2,g3,g4,g5,g6,g7⟩
 ·subst h0;exact TR.imm0 _ _ _ trivial
 ·have hl:∀i,i<M*2->cur[i]? =(rowsL n rb M)[i]? :=λi hi=>(by rw[<-g7,Cc,AB hi];simp);refine TR.imm _ M none g 0 cap (λi=>(cur[i]?).getD undef) (hU g (by omega)) ⟨_,_,_,g3⟩ trivial g4 (λi hi=> ?_) (λi hi=> ?_)
  ·rw[pairL_length]at hi;have:i<cur.size:=(by omega);simp[World.cell?,g3,this]
  ·have hi2:i<M*2:=(by rwa [pairL_length]at hi);have e0:=A3 hi;generalize ((List.range M).flatMap λk=>[T.int .i64 n,T.imm [T.int .u64 (val k)] 1 none])[i]=tt at e0⊢;rw[hl i hi2];obtain⟨k,hk|hk⟩:∃k,i=2*k\/i=2*k+1:=⟨i / 2,by omega⟩
   ·subst hk;have hk:k<M:=(by omega);rw[(pairL_get _ _ hk).1]at e0;cases e0;rw[(rowsL_get n rb hk).1];exact TR.int _ _
   ·subst hk;have hk:k<M:=(by omega);rw[(pairL_get _ _ hk).2]at e0;cases e0;rw[(rowsL_get n rb hk).2];have hw:=h.row k hk;refine TR.imm _ 1 none (rb k) 0 1 (λ_=>.int .u64 (val k)) (hU _ (by have:=h.low k hk;omega)) ⟨_,_,_,hw⟩ trivial (A9 _) (λi hi=> ?_) (λi hi=> ?_)
    ·obtain rfl:i=0:=(by simpa using hi);exact hw.cell
    ·obtain rfl:i=0:=(by simpa using hi);exact TR.int _ _
theorem arg_pat{ι:Map}{w:World}{n t c:Int}{l:List Int}{cargs:Array Value}(ha:Ji ι w [.agg [.t (.int .i64 n),.t (.int .u64 t),.t (.imm (l.flatMap (Ly.int .u64).trees) l.length none),.t (.int .i64 c)]] cargs):
  ∃a k,cargs= #[.agg #[.int .i64 n,.int .u64 t,.slice a l.length k,.int .i64 c]]/\ElsU w w.heap.size a l:=by
 obtain⟨hsz,ha⟩:=ha;obtain⟨u,e0,h0⟩:=ha 0 (by simp);have ha2:Ji ι w [.agg [.t (.int .i64 n),.t (.int .u64 t),.t (.imm (l.flatMap (Ly.int .u64).trees) l.length none),.t (.int .i64 c)],.c (.t (.int .u64 0))] #[u,.int .u64 0]:=by
  refine⟨rfl,λi hi=> ?_⟩;have hi:i<2:=hi
  match i,hi with
  |0,_=>exact⟨_,rfl,h0⟩
  |1,_=>exact⟨_,rfl,TR.int _ _⟩
 obtain⟨a,k,h1,h2⟩:=M61.arg_pat ha2;refine⟨a,k,?_,h2⟩;have h3:u=.agg #[.int .i64 n,.int .u64 t,.slice a l.length k,.int .i64 c]:=by have:=congrArg (λx:Array Value=>x[0]?) h1;simpa using this
 refine Bt (by simpa using hsz) λi hi _=> ?_;have hi:i<1:=by simpa [hsz] using hi
 match i,hi with
 |0,_=>rw[(WF.1 e0).2,h3];rfl
theorem resOut{ι:Map}{w:World}{t:T}{v:Value}{n:Int}(h:TR ι.un w t v):VR ι w (.agg [.t (.int .i64 n),.t t]) (.agg #[.int .i64 n,v]):=by
 refine⟨_,rfl,rfl,λi hi=> ?_⟩;have hi:i<2:=hi
 match i,hi with
 |0,_=>exact⟨_,rfl,TR.int _ _⟩
 |1,_=>exact⟨_,rfl,h⟩
theorem known:QM Try.prog 97 g f m:=by
 refine⟨λ_ _=>⟨rfl,rfl⟩,by decide,λx y hy=> ?_⟩;obtain⟨n,t,ph,c⟩:=x;show Qo Try.prog 97 [.agg [.t (.int .i64 n),.t (.int .u64 t),.t (.imm (ph.flatMap (Ly.int .u64).trees) ph.length none),.t (.int .i64 c)]] [] λv τ=>v=.agg [.t (.int .i64 y.1),.t (.imm (y.2.flatMap (Ly.pair (.int .i64) (.sl (.int .u64))).trees) y.2.length none)]/\τ=[];refine M61.fn_belW callable97 fun ι w cargs hH ha=> ?_;obtain⟨a,k,rfl,hel⟩:=arg_pat ha;unfold m at hy
 cases hp:ph.isEmpty with
 |true=>obtain rfl:=List.isEmpty_iff.1 hp;simp only[List.isEmpty_nil]at hy;cases hy;exact(eqs_nil w n t c a k).mono λe w' ⟨h1,h2⟩=>⟨⟨_,h1,resOut (TR.imm0 _ _ _ trivial)⟩,h2⟩
 |false=>
  simp only[hp,AA]at hy;have hp0:ph≠[]:=λe=>by rw[e]at hp;cases hp
  cases hok:okE ⟨n,t,ph,c⟩ with
  |false=>rw[hok]at hy;cases hy
  |true=>rw[hok]at hy;cases hy;simp only[okE,AC,Aj]at hok;obtain⟨⟨⟨⟨h1,h2⟩,h3⟩,h4⟩,h5⟩:=hok;obtain⟨cn,rfl⟩:=AH h3;refine(eqs_ok w n t cn (M61.st n t) (λ_=>rfl) (λs k=>M61.hst n t s (by omega) k) M61.pr M61.hpr ph a k hel h5 hp0 (by omega) ⟨h1,h2⟩).mono ?_;rintro e w' ⟨bo,v,rb,he,hE,hb,hbo⟩;exact⟨⟨_,he,resOut (eq_tree hE λb hb=>M61.un_new hH (by omega))⟩,hb⟩
def con:Con:=J9 g f m default
theorem con_ok:QR Try.prog 97 con:=QG known (λ_=>rfl) rfl
end M97
end
