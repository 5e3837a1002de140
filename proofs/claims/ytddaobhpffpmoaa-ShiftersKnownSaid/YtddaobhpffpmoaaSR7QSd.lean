/- A part of the proof. -/
import Derived.Test.YtddaobhpffpmoaaSR7QSa
import Derived.Test.YtddaobhpffpmoaaSR7QSb
import Derived.Test.YtddaobhpffpmoaaSR7QSc
import Derived.Test.YtddaobhpffpmoaaSR7QGs
import Derived.Test.YtddaobhpffpmoaaSR7QSyN
set_option linter.all false
set_option maxRecDepth 100000
set_option maxHeartbeats 4000000
noncomputable section
namespace Go.Proofs.Ytddaobhpffpmoaa
section
open Go.RowKit
def rngPost2(id B bm:Nat)(I:Nat->World->Prop)(Ix Ir:World->Prop)(N k:Nat)(W:World):Exit->Act->World->Prop
 |.normal,_,W'=>k<N/\I (k+1) W'/\Fr (λb=>b=bm\/b=B\/b=B+1) W W'
 |.exit j,_,W'=>j=id/\Ix W'/\Fr (λb=>b=bm\/b=B\/b=B+1) W W'
 |.ret,_,W'=>Ir W'/\Fr (λb=>b=bm\/b=B\/b=B+1) W W'
 |_,_,_=>False
theorem rng_law2{P:Program}{n:Nat}{g:Operand}{ps:Array Tmp}{assign body:Code}{Q:Exit->Act->World->Prop}{a:Act}{w:World}
  {gf:Nat} {lb:Array Value} (hg:a.eval g=.func (.func gf) #[] lb) (eg:∀args w,(callFunc gf args).run P w=.ok (.enter gf args) w)
  {enc:Nat->Array Value} {bm:Nat} {o:Obj} (hbm:bm<w.heap.size) (ho:w.heap[bm]? =some o) {N:Nat} (hseq:SeqC (n - 1) P gf lb enc bm o N) (hps:∀k,(enc k).size=ps.size)
  (id:Nat) (I:Nat->World->Prop) (Ix Ir:World->Prop)
  (hI:∀k W W',I k W->Fr (λb=>b<w.heap.size/\b≠bm) W W'->I k W') (hIx:∀W W',Ix W->Fr (λb=>b<w.heap.size/\b≠bm) W W'->Ix W') (hIr:∀W W',Ir W->Fr (λb=>b<w.heap.size/\b≠bm) W W'->Ir W') (h0:I 0 w) (a₁:Nat->Act)
  (hassign:∀(l k:Nat) (W:World) (K:Act->World->Prop),K (a₁ k) W->
   assign.wpIn (Fence.wide.inRound l) (n - 1 - 1) P (Exit.then K (λ_ _ _=>False)) { tmps:=(ps.zip (enc k)).foldl (λt (p,v)=>t.setIfInBounds p v) a.tmps,defers:=[] } W)
  (hbody:∀(l k:Nat) (W:World),I k W->k<=N->w.heap.size+2<=W.heap.size->body.wpIn (Fence.wide.inRound l) (n - 1 - 1) P (rngPost2 id w.heap.size bm I Ix Ir N k W) (a₁ k) W)
  (hstop:∀(D:Nat) (W:World),w.heap.size<=D->Ix W->W.heap[D]? =some (.deferred (some []))->(Code.exit id).wpIn Fence.wide n P Q { a with defers:={ target:=.collected D,args:= #[] }::a.defers } W)
  (hret:∀(D:Nat) (W:World),w.heap.size<=D->Ir W->W.heap[D]? =some (.deferred (some []))->Code.ret.wpIn Fence.wide n P Q { a with defers:={ target:=.collected D,args:= #[] }::a.defers } W):
  (Code.rangeFunc g ps assign body).wpIn Fence.wide n P Q a w:=by
 refine wpIn_rangeFunc ?_;intro fn hfn;obtain⟨rec,hrec⟩:∃rec:LoopState->Option Code->Loop,rec=λst pe=>{ state:=st,pending:=pe,fn,tmps:=a.tmps,params:=ps,assign,body,defers:=w.heap.size }:=⟨_,rfl⟩;obtain⟨W1,hW1⟩:∃W1,(w.alloc (.deferred (some []))).alloc (.loop (rec .ready none))=W1:=⟨_,rfl⟩;have hL1:W1.heap[w.heap.size+1]? =some (.loop (rec .ready none)):=by rw[<-hW1];have:=AI (w.alloc (.deferred (some []))) (.loop (rec .ready none));rwa [AU]at this
 have hK1:W1.heap[w.heap.size]? =some (.deferred (some [])):=by rw[<-hW1];exact(Below.heap_alloc _ _ _ (by simp)).trans (AI w _)
 have hF1:∀p,Fr p w W1:=λp=>by rw[<-hW1];exact(Fr.alloc p _ _).trans (Fr.alloc p _ _)
 have hput:∀(W:World) (q:Obj),Fr (λb=>b<w.heap.size/\b≠bm) W (W.putObj (w.heap.size+1) q):=λW q=>Fr.putObj _ _ _ (λh=>by omega)
 refine⟨w.heap.size+1,[{ target:=.collected w.heap.size,args:= #[] }],W1,{ target:=.fn (.func gf) lb,args:= #[.func (.yield (w.heap.size+1)) #[] #[]] },W1,gf,
  #[.func (.yield (w.heap.size+1)) #[] #[]]++lb,W1,?_,?_,?_,?_,λh=>(by cases h),?_⟩
 ·rw[<-hW1,hrec];exact run_enterLoop_outer _ _ _ _ _
 ·simp only[resolve,hg];simp[go_sem]
 ·intro f' hf';trivial
 ·simp[invoke,go_sem,eg]
 ·refine(hseq (w.heap.size+1)
   (λk W=>I k W/\W.heap[w.heap.size+1]? =some (.loop (rec .ready none))/\W.heap[w.heap.size]? =some (.deferred (some [])))
   (λW=>(Ix W/\W.heap[w.heap.size+1]? =some (.loop (rec .done (some (.exit id))))/\W.heap[w.heap.size]? =some (.deferred (some [])))\/
    (Ir W/\W.heap[w.heap.size+1]? =some (.loop (rec .done (some .ret)))/\W.heap[w.heap.size]? =some (.deferred (some []))))
   W1
   (λk A B hs hf=>⟨hI k A B hs.1 (hf.imp λb _ h=>h.2),(hf.keep _ (WF.1 hs.2.1).1 (by omega)).trans hs.2.1,(hf.keep _ (WF.1 hs.2.2).1 (by omega)).trans hs.2.2⟩)
   ?_ ⟨hI _ _ _ h0 (hF1 _),hL1,hK1⟩ (((hF1 (λ_=>True)).keep bm hbm trivial).trans ho)).mono ?_
  ·rintro k W ⟨hi,hl,hk⟩ hlen;have hlt:w.heap.size+1<W.heap.size:=(WF.1 hl).1;have hy:=run_yield (P:=P) (args:=enc k) hl (by rw[hrec];exact hps k);rw[hrec]at hy;refine⟨fn,_,assign,body,hy,roundIn_of_wpIn hfn (hassign _ k W _ ⟨_,run_beginRound hl (by rw[hrec]),?_⟩)⟩;have hl2:(W.putObj (w.heap.size+1) (.loop { rec .ready none with state:=.busy })).heap[w.heap.size+1]? =some (.loop { rec .ready none with state:=.busy }):=C0 hlt;have hk2:(W.putObj (w.heap.size+1) (.loop { rec .ready none with state:=.busy })).heap[w.heap.size]? =some (.deferred (some [])):=(B2 (by omega)).trans hk;have hm2:(W.putObj (w.heap.size+1) (.loop { rec .ready none with state:=.busy })).heap[bm]? =W.heap[bm]? :=B2 (by omega);refine C7 (hbody _ k _ (hI _ _ _ hi (hput _ _)) hlen (by simp;omega)) ?_;have fin:∀(jump:Option Code) (W3:World),Fr (λb=>b=bm\/b=w.heap.size\/b=w.heap.size+1) (W.putObj (w.heap.size+1) (.loop { rec .ready none with state:=.busy })) W3->
     (Instr.endRound (w.heap.size+1) jump).run P W3=.ok (.bool jump.isNone) (W3.putObj (w.heap.size+1) (.loop (rec (if jump.isNone then .ready else .done) jump)))/\
     (W3.putObj (w.heap.size+1) (.loop (rec (if jump.isNone then .ready else .done) jump))).heap[w.heap.size+1]? =some (.loop (rec (if jump.isNone then .ready else .done) jump))/\
     (W3.putObj (w.heap.size+1) (.loop (rec (if jump.isNone then .ready else .done) jump))).heap[w.heap.size]? =some (.deferred (some []))/\
     (W3.putObj (w.heap.size+1) (.loop (rec (if jump.isNone then .ready else .done) jump))).heap[bm]? =W.heap[bm]? :=λjump W3 hk3=>by
    have hl3:=(hk3.keep (w.heap.size+1) (by simp;omega) (.inr (.inr rfl))).trans hl2;have:=run_endRound (P:=P) jump hl3;rw[hrec]at this⊢;exact⟨this,C0 (WF.1 hl3).1,(B2 (by omega)).trans ((hk3.keep w.heap.size (by simp;omega) (.inr (.inl rfl))).trans hk2),
     (B2 (by omega)).trans ((hk3.keep bm (by simp;omega) (.inl rfl)).trans hm2)⟩
   rintro e a3 W3 hp
   cases e with
   |normal=>obtain⟨hkN,hi3,hk3⟩:=hp;obtain⟨hr,hl4,hk4,hm4⟩:=fin none W3 hk3;exact⟨_,_,hr,.inl ⟨rfl,hkN,⟨hI _ _ _ hi3 (hput _ _),hl4,hk4⟩,hm4⟩⟩
   |exit j=>obtain⟨rfl,hi3,hk3⟩:=hp;obtain⟨hr,hl4,hk4,hm4⟩:=fin (some (.exit j)) W3 hk3;exact⟨_,_,hr,.inr ⟨rfl,.inl ⟨hIx _ _ hi3 (hput _ _),hl4,hk4⟩⟩⟩
   |ret=>obtain⟨hi3,hk3⟩:=hp;obtain⟨hr,hl4,hk4,hm4⟩:=fin (some .ret) W3 hk3;exact⟨_,_,hr,.inr ⟨rfl,.inr ⟨hIr _ _ hi3 (hput _ _),hl4,hk4⟩⟩⟩
   |goto t=>exact hp.elim
   |panic ch=>exact hp.elim
   |outgrown=>exact hp.elim
  ·rintro e W2 ⟨⟨v,rfl⟩,⟨hi,hl,hk⟩|⟨hi,hl,hk⟩⟩
   ·exact⟨some (.exit id),_,by have:=run_endLoop (P:=P) hl (by rw[hrec];simp);rw[hrec]at this;exact this,hstop _ _ (A9 _) (hIx _ _ hi (hput _ _)) ((B2 (by omega)).trans hk)⟩
   ·exact⟨some .ret,_,by have:=run_endLoop (P:=P) hl (by rw[hrec];simp);rw[hrec]at this;exact this,hret _ _ (A9 _) (hIr _ _ hi (hput _ _)) ((B2 (by omega)).trans hk)⟩
end
section
open Go.RowKit
attribute [local go_sem] Oper.semAt_some
def stopP(lim:Int)(st:Nat->Int)(s:Int)(k:Nat):Bool:=decide (lim<k)||(decide (0<k)&&st k==s)
structure Pb(B:Nat)(s lim r e:Int)(W:World):Prop where
 s:W.heap[B+1]? =some (.cells #[.int .u64 s] 85 (0,0))
 l:W.heap[B+1+1]? =some (.cells #[.int .i64 lim] 3 (0,0))
 r:W.heap[B+1+1+1]? =some (.cells #[.int .i64 r] 3 (0,0))
 e:W.heap[B+1+1+1+1]? =some (.cells #[.int .i64 e] 35 (0,0))
theorem Pb.fr{B:Nat}{s lim r e:Int}{W W':World}(h:Pb B s lim r e W){p:Nat->Prop}(hp:p (B+1)/\p (B+1+1)/\p (B+1+1+1)/\p (B+1+1+1+1))(hf:Fr p W W'):Pb B s lim r e W':=
 ⟨(hf.keep _ (WF.1 h.s).1 hp.1).trans h.s,(hf.keep _ (WF.1 h.l).1 hp.2.1).trans h.l,(hf.keep _ (WF.1 h.r).1 hp.2.2.1).trans h.r,(hf.keep _ (WF.1 h.e).1 hp.2.2.2).trans h.e⟩
theorem Pb.cells{B:Nat}{s lim r e:Int}{W:World}(h:Pb B s lim r e W):W.cell? ⟨B+1,0,none⟩=some (.int .u64 s)/\W.cell? ⟨B+1+1,0,none⟩=some (.int .i64 lim)/\W.cell? ⟨B+1+1+1,0,none⟩=some (.int .i64 r)/\W.cell? ⟨B+1+1+1+1,0,none⟩=some (.int .i64 e)/\
  W.frozen? ⟨B+1+1+1,0,none⟩=false/\W.frozen? ⟨B+1+1+1+1,0,none⟩=false:=by
 refine⟨?_,?_,?_,?_,?_,?_⟩<;>simp[World.cell?,World.frozen?,h.s,h.l,h.r,h.e]
theorem Pb.set{B:Nat}{s lim r e:Int}{W:World}(h:Pb B s lim r e W)(r' e':Int):Pb B s lim r' e' ((W.setCell ⟨B+1+1+1,0,none⟩ (.int .i64 r')).setCell ⟨B+1+1+1+1,0,none⟩ (.int .i64 e'))/\Fr (λb=>b≠B+1+1+1/\b≠B+1+1+1+1) W ((W.setCell ⟨B+1+1+1,0,none⟩ (.int .i64 r')).setCell ⟨B+1+1+1+1,0,none⟩ (.int .i64 e')):=by have z1:=heap_setCell_same h.r 0 (.int .i64 r');have y2:(W.setCell ⟨B+1+1+1,0,none⟩ (.int .i64 r')).heap[B+1+1+1+1]? =some (.cells #[.int .i64 e] 35 (0,0)):=(Below.heap_setCell W ⟨B+1+1+1,0,none⟩ _ _ (show B+1+1+1+1≠B+1+1+1 by omega)).trans h.e;have z2:=heap_setCell_same y2 0 (.int .i64 e');have hf:Fr (λb=>b≠B+1+1+1/\b≠B+1+1+1+1) W ((W.setCell ⟨B+1+1+1,0,none⟩ (.int .i64 r')).setCell ⟨B+1+1+1+1,0,none⟩ (.int .i64 e')):=(Fr.setCell W _ _ (λh=>h.1 rfl)).trans (Fr.setCell (W.setCell ⟨B+1+1+1,0,none⟩ (.int .i64 r')) _ _ (λh=>h.2 rfl));exact⟨⟨(hf.keep _ (WF.1 h.s).1 (by omega)).trans h.s,(hf.keep _ (WF.1 h.l).1 (by omega)).trans h.l,(Below.heap_setCell _ ⟨B+1+1+1+1,0,none⟩ _ _ (show B+1+1+1≠B+1+1+1+1 by omega)).trans z1,z2⟩,hf⟩
theorem results_cell2{P:Program}{fn:Func}{p q:Tmp}{t1 t2:TypeId}(h:fn.results= #[.cell p t1,.cell q t2])(tmps:Array Value)(w:World)(a b:Addr)(v1 v2:Value)(hp:tmps.getD p undef=.pointer (some a))(hq:tmps.getD q undef=.pointer (some b))
  (h1:(loadVar t1 a).run P w=.ok v1 w) (h2:(loadVar t2 b).run P w=.ok v2 w):(results fn tmps).run P w=.ok (.tuple #[v1,v2]) w:=by
 have hp':tmps[p]?.getD undef=.pointer (some a):=by simpa using hp
 have hq':tmps[q]?.getD undef=.pointer (some b):=by simpa using hq
 simp[results,h,hp',hq',asAddr,h1,h2,AO,Result.andThen]
theorem load_3{w:World}{a:Addr}{v:Value}(h:w.cell? a=some v):(loadVar 3 a).run Try.prog w=.ok v w:=by
 unfold loadVar
 go_simp
theorem load_35{w:World}{a:Addr}{v:Value}(h:w.cell? a=some v):(loadVar 35 a).run Try.prog w=.ok v w:=by
 unfold loadVar
 go_simp
theorem per_ok(n:Nat)(w:World)(N T s lim:Int)(st:Nat->Int)(h0:st 0=s)(hst:∀k,M93.m ⟨N,T,st k⟩=some (N,T,st (k+1)))(hl:0<=lim/\lim<=1048576)(M:Nat)(hM:stopP lim st s M=true)(hlt:∀j,j<M->stopP lim st s j=false)(hM2:M<=lim.toNat+1)
   (h91:∀w1,Bel w.heap.size w w1->Calls Try.prog 91 #[.agg #[.int .i64 N,.int .u64 T],.int .u64 s] w1 λe w'=>e=.returned (.tuple #[.agg #[.int .i64 N,.int .u64 T,.int .u64 s],.int .i64 0])/\Bel w1.heap.size w1 w'):
   CallsIn Fence.wide n Try.prog 55 #[.agg #[.int .i64 N,.int .u64 T],.int .u64 s,.int .i64 lim] w λe w'=>
     e=.returned (.tuple #[.int .i64 (if lim<M then 0 else M),.int .i64 (if lim<M then 3 else 0)])/\Bel w.heap.size w w':=by
 refine callsIn_of_wp_marks Try.func55 rfl trivial ?_ rfl;simp only[Try.ntmps55,List.size_toArray,Ar,Bg,Nat.reduceAdd,Nat.reduceSub,Array.replicate_succ,Array.replicate_zero,List.push_toArray,List.append_toArray,BY,List.cons_append]
 gi_wp2
 obtain⟨W1,hW1⟩:∃W1,(((((w.alloc (.cells #[.int .i64 N,.int .u64 T] 91)).alloc (.cells #[.int .u64 s] 85)).alloc (.cells #[.int .i64 lim] 3)).alloc (.cells #[.int .i64 0] 3)).alloc (.cells #[.int .i64 0] 35))=W1:=⟨_,rfl⟩;have hF1:Fr (λ_=>True) w W1:=by rw[<-hW1];exact((((Fr.alloc _ _ _).trans (Fr.alloc _ _ _)).trans (Fr.alloc _ _ _)).trans (Fr.alloc _ _ _)).trans (Fr.alloc _ _ _)
 have hP1:Pb w.heap.size s lim 0 0 W1:=by
   rw[<-hW1];refine⟨?_,?_,?_,?_⟩
   · rw[Below.heap_alloc _ _ _ (by simp<;>omega),Below.heap_alloc _ _ _ (by simp<;>omega),Below.heap_alloc _ _ _ (by simp)]
     have:=AI (w.alloc (.cells #[.int .i64 N,.int .u64 T] 91)) (.cells #[.int .u64 s] 85);rwa [AU]at this
   · rw[Below.heap_alloc _ _ _ (by simp<;>omega),Below.heap_alloc _ _ _ (by simp)]
     have:=AI ((w.alloc (.cells #[.int .i64 N,.int .u64 T] 91)).alloc (.cells #[.int .u64 s] 85)) (.cells #[.int .i64 lim] 3);rwa [AU,AU]at this
   · rw[Below.heap_alloc _ _ _ (by simp)]
     have:=AI (((w.alloc (.cells #[.int .i64 N,.int .u64 T] 91)).alloc (.cells #[.int .u64 s] 85)).alloc (.cells #[.int .i64 lim] 3)) (.cells #[.int .i64 0] 3);rwa [AU,AU,AU]at this
   · have:=AI ((((w.alloc (.cells #[.int .i64 N,.int .u64 T] 91)).alloc (.cells #[.int .u64 s] 85)).alloc (.cells #[.int .i64 lim] 3)).alloc (.cells #[.int .i64 0] 3)) (.cells #[.int .i64 0] 35)
     rwa [AU,AU,AU,AU]at this
 have hs1:=(WF.1 hP1.e).1;rw[hW1];clear hW1;refine⟨trivial,λh=>(by cases h),(Az.2 (h91 _ ((hF1.imp λ_ _ _=>trivial).bel (A9 _)))).mono ?_⟩;rintro e W2 ⟨rfl,hb2⟩;have hP2:Pb w.heap.size s lim 0 0 W2:=hP1.fr (p:=(· <W1.heap.size)) (by omega) (Bel.fr hb2);have hs2:=hb2.size;have hF2:Fr (λ_=>True) W1 W2\/True:=.inr trivial;have k1:W2.cell? ⟨w.heap.size+1+1,0,none⟩=some (.int .i64 lim):=hP2.cells.2.1;have k2:(W2.alloc (.cells #[.int .i64 N,.int .u64 T,.int .u64 s] 156)).cell? ⟨w.heap.size+1+1,0,none⟩=some (.int .i64 lim):=(hP2.fr (p:=λ_=>True) (by simp) (Fr.alloc _ _ _)).cells.2.1
 gi_wp2
 refine⟨trivial,λh=>(by cases h),(states_walk _ _ N T s).mono ?_⟩;rintro e w' ⟨rfl,rfl⟩
 gi_wp2
 obtain⟨W0,hW0⟩:∃W0,((W2.alloc (.cells #[.int .i64 N,.int .u64 T,.int .u64 s] 156)).alloc (.cells #[.int .i64 N,.int .u64 T,.int .u64 s] 156))=W0:=⟨_,rfl⟩;have hF0:Fr (λ_=>True) W2 W0:=by rw[<-hW0];exact(Fr.alloc _ _ _).trans (Fr.alloc _ _ _)
 have ho:W0.heap[W2.heap.size+1]? =some (.cells #[.int .i64 N,.int .u64 T,.int .u64 (st 0)] 156 (0,0)):=by rw[<-hW0,h0];have:=AI (W2.alloc (.cells #[.int .i64 N,.int .u64 T,.int .u64 s] 156)) (.cells #[.int .i64 N,.int .u64 T,.int .u64 s] 156);rwa [AU]at this
 have hsz:W0.heap.size=W2.heap.size+2:=by rw[<-hW0];simp
 have hP0:Pb w.heap.size s lim 0 0 W0:=hP2.fr (p:=λ_=>True) (by simp) hF0;have hbw:Bel w.heap.size w W0:=((hF1.imp λ_ _ _=>trivial).bel (B:=w.heap.size) (A9 _)).trans ((Bel.le hb2 (by omega)).trans ((hF0.imp λ_ _ _=>trivial).bel (by omega)));rw[hW0];clear hW0;refine rng_law2 (gf:=109) (lb:= #[.pointer (some ⟨W2.heap.size+1,0,none⟩)]) rfl (enters_of Try.func109 (by kernel_rfl) rfl) (enc:=λk=> #[.int .i64 k,.int .u64 (st k)]) (bm:=W2.heap.size+1) (by omega) ho
   (states_seq (n - 1) (W2.heap.size+1) N T st M (by omega) hst) (λ_=>rfl) 1
   (λk W=>k<=M/\Pb w.heap.size s lim 0 0 W/\Bel w.heap.size w W) (λW=>lim<M/\Pb w.heap.size s lim 0 0 W/\Bel w.heap.size w W) (λW=>¬lim<M/\Pb w.heap.size s lim M 0 W/\Bel w.heap.size w W)
   (λk W W' h hf=>⟨h.1,h.2.1.fr (by omega) hf,h.2.2.trans ((hf.imp λb _ hb=>by omega).bel h.2.2.size)⟩)
   (λW W' h hf=>⟨h.1,h.2.1.fr (by omega) hf,h.2.2.trans ((hf.imp λb _ hb=>by omega).bel h.2.2.size)⟩)
   (λW W' h hf=>⟨h.1,h.2.1.fr (by omega) hf,h.2.2.trans ((hf.imp λb _ hb=>by omega).bel h.2.2.size)⟩)
   ⟨B4 _,hP0,hbw⟩
   (λk=>{ tmps:= #[.agg #[.int .i64 N,.int .u64 T],.int .u64 s,.int .i64 lim,.pointer (some ⟨w.heap.size,0,none⟩),.pointer (some ⟨w.heap.size+1,0,none⟩),.pointer (some ⟨w.heap.size+1+1,0,none⟩),.pointer (some ⟨w.heap.size+1+1+1,0,none⟩),.pointer (some ⟨w.heap.size+1+1+1+1,0,none⟩),
     .pointer (some ⟨W2.heap.size,0,none⟩),.int .i64 0,.int .i64 k,.int .u64 (st k),.tuple #[.agg #[.int .i64 N,.int .u64 T,.int .u64 s],.int .i64 0],.agg #[.int .i64 N,.int .u64 T],.int .u64 s,.tuple #[.agg #[.int .i64 N,.int .u64 T,.int .u64 s],.int .i64 0],.agg #[.int .i64 N,.int .u64 T,.int .u64 s],
     .int .i64 0,.bool false,.int .i64 0,.bool false,undef,.bool (decide (lim<0)),.int .i64 lim,.bool (decide (lim<0)),.bool (decide (1048576<lim)),.int .i64 lim,.bool (decide (1048576<lim)),.agg #[.int .i64 N,.int .u64 T,.int .u64 s],
     .func (.func 109) #[] #[.pointer (some ⟨W2.heap.size+1,0,none⟩)],.int .i64 k,.int .u64 (st k),undef,undef,undef,undef,undef,undef,undef,undef,undef,undef,undef],defers:=[] }) ?assign ?body ?stop ?ret
 case assign=>
   intro l k W K hK
   gi_wp2
   exact hK
 case body=>
   rintro l k W ⟨hk,hp,hb⟩ hkl hsW;obtain⟨c1,c2,c3,c4,c5,c6⟩:=hp.cells;have hset:=hp.set k 0;have hst1:stopP lim st s k=true->k=M:=λh=>by
     rcases BV k M with h1|h1
     · rw[hlt k h1]at h;cases h
     · omega
   have hst2:stopP lim st s k=false->k<M:=λh=>by
     rcases BV k M with h1|h1
     · exact h1
     · have:k=M:=by omega
       rw[this,hM]at h;cases h
   have HS:=hset
   replace HS:Hid (Pb w.heap.size s lim k 0 ((W.setCell ⟨w.heap.size+1+1+1,0,none⟩ (.int .i64 k)).setCell ⟨w.heap.size+1+1+1+1,0,none⟩ (.int .i64 0))/\Fr (λb=>b≠w.heap.size+1+1+1/\b≠w.heap.size+1+1+1+1) W ((W.setCell ⟨w.heap.size+1+1+1,0,none⟩ (.int .i64 k)).setCell ⟨w.heap.size+1+1+1+1,0,none⟩ (.int .i64 0))):=hset
   have H1:Hid (stopP lim st s k=true->k=M):=hst1;have H2:Hid (stopP lim st s k=false->k<M):=hst2;clear hset hst1 hst2 hM hlt
   gi_wp2
   · have e:=H1.out (by simp[stopP];omega)
     exact⟨rfl,⟨by omega,hp,hb⟩,Fr.refl _ _⟩
   · have e:=H1.out (by simp[*,stopP])
     subst e;exact⟨⟨by omega,HS.out.1,hb.trans ((HS.out.2.imp λb _ hb=>by omega).bel hb.size)⟩,HS.out.2.imp λb _ hb=>by omega⟩
   · exact⟨H2.out (by simp[*,stopP]<;>omega),⟨H2.out (by simp[*,stopP]<;>omega),hp,hb⟩,Fr.refl _ _⟩
   · exact⟨H2.out (by simp[*,stopP]<;>omega),⟨H2.out (by simp[*,stopP]<;>omega),hp,hb⟩,Fr.refl _ _⟩
 case stop=>
   rintro D W hD ⟨hlM,hp,hb⟩ hK;obtain⟨c1,c2,c3,c4,c5,c6⟩:=hp.cells;obtain⟨hset,hfs⟩:=hp.set 0 3;have hK2:=(hfs.keep D (WF.1 hK).1 (by omega)).trans hK
   gi_wp2
   refine⟨by simp,.inl ⟨_,_,rfl,run_takeDeferred hK2,?_⟩⟩;refine⟨_,results_cell2 rfl _ _ _ _ _ _ rfl rfl (load_3 (hset.fr (p:=(· ≠D)) (by omega) (Fr.putObj _ _ _ (λh=>h rfl))).cells.2.2.1) (load_35 (hset.fr (p:=(· ≠D)) (by omega) (Fr.putObj _ _ _ (λh=>h rfl))).cells.2.2.2.1),rfl,hb.trans ((Fr.trans (hfs.imp λb _ hb=>by omega) (Fr.putObj _ _ _ (by omega))).bel hb.size)⟩
 case ret=>
   rintro D W hD ⟨hlM,hp,hb⟩ hK;obtain⟨c1,c2,c3,c4,c5,c6⟩:=hp.cells
   gi_wp2
   refine⟨by simp,.inl ⟨_,_,rfl,run_takeDeferred hK,?_⟩⟩;refine⟨_,results_cell2 rfl _ _ _ _ _ _ rfl rfl (load_3 (hp.fr (p:=(· ≠D)) (by omega) (Fr.putObj _ _ _ (λh=>h rfl))).cells.2.2.1) (load_35 (hp.fr (p:=(· ≠D)) (by omega) (Fr.putObj _ _ _ (λh=>h rfl))).cells.2.2.2.1),rfl,hb.trans ((Fr.putObj _ _ _ (by omega)).bel hb.size)⟩
end
section
open Go.Abs Go.RowKit
def firstP(lim:Int)(st:Nat->Int)(s:Int):Nat:=((List.range (lim.toNat+2)).find? (stopP lim st s)).getD 0
theorem firstP_spec{lim:Int}(h:0<=lim)(st:Nat->Int)(s:Int):stopP lim st s (firstP lim st s)=true/\(∀j,j<firstP lim st s->stopP lim st s j=false)/\firstP lim st s<=lim.toNat+1:=by
 unfold firstP
 cases hf:(List.range (lim.toNat+2)).find? (stopP lim st s) with
 |none=>have:=List.find?_eq_none.1 hf (lim.toNat+1) (by simp);exfalso;apply this;unfold stopP;rw[A5 (by omega)];rfl
 |some i=>obtain⟨h1,h2,h3⟩:=List.find?_range_eq_some.1 hf;refine⟨h1,λj hj=>by simpa using h3 j hj,by have:=BK.1 h2;simp only[Al];omega⟩
theorem pb_new(w:World)(N T s lim:Int):Pb w.heap.size s lim 0 0 (((((w.alloc (.cells #[.int .i64 N,.int .u64 T] 91)).alloc (.cells #[.int .u64 s] 85)).alloc (.cells #[.int .i64 lim] 3)).alloc (.cells #[.int .i64 0] 3)).alloc (.cells #[.int .i64 0] 35)):=by
 refine⟨?_,?_,?_,?_⟩
 ·rw[Below.heap_alloc _ _ _ (by simp<;>omega),Below.heap_alloc _ _ _ (by simp<;>omega),Below.heap_alloc _ _ _ (by simp)];have:=AI (w.alloc (.cells #[.int .i64 N,.int .u64 T] 91)) (.cells #[.int .u64 s] 85);rwa [AU]at this
 ·rw[Below.heap_alloc _ _ _ (by simp<;>omega),Below.heap_alloc _ _ _ (by simp)];have:=AI ((w.alloc (.cells #[.int .i64 N,.int .u64 T] 91)).alloc (.cells #[.int .u64 s] 85)) (.cells #[.int .i64 lim] 3);rwa [AU,AU]at this
 ·rw[Below.heap_alloc _ _ _ (by simp)];have:=AI (((w.alloc (.cells #[.int .i64 N,.int .u64 T] 91)).alloc (.cells #[.int .u64 s] 85)).alloc (.cells #[.int .i64 lim] 3)) (.cells #[.int .i64 0] 3);rwa [AU,AU,AU]at this
 ·have:=AI ((((w.alloc (.cells #[.int .i64 N,.int .u64 T] 91)).alloc (.cells #[.int .u64 s] 85)).alloc (.cells #[.int .i64 lim] 3)).alloc (.cells #[.int .i64 0] 3)) (.cells #[.int .i64 0] 35);rwa [AU,AU,AU,AU]at this
theorem per_err(w:World)(N T s lim e1 R:Int)(m0 m1 m2:Int)(hR:(e1≠0/\R=e1)\/(e1=0/\lim<0/\R=1)\/(e1=0/\1048576<lim/\R=3))
  (h91:∀w1,Bel w.heap.size w w1->Calls Try.prog 91 #[.agg #[.int .i64 N,.int .u64 T],.int .u64 s] w1 λe w'=>e=.returned (.tuple #[.agg #[.int .i64 m0,.int .u64 m1,.int .u64 m2],.int .i64 e1])/\Bel w1.heap.size w1 w'):
  Calls Try.prog 55 #[.agg #[.int .i64 N,.int .u64 T],.int .u64 s,.int .i64 lim] w λe w'=>e=.returned (.tuple #[.int .i64 0,.int .i64 R])/\Bel w.heap.size w w':=by
 go_enter Try.func55,Try.ntmps55
 have hbw:Bel w.heap.size w (((((w.alloc (.cells #[.int .i64 N,.int .u64 T] 91)).alloc (.cells #[.int .u64 s] 85)).alloc (.cells #[.int .i64 lim] 3)).alloc (.cells #[.int .i64 0] 3)).alloc (.cells #[.int .i64 0] 35)):=(((((Fr.alloc _ _ _).trans (Fr.alloc _ _ _)).trans (Fr.alloc _ _ _)).trans (Fr.alloc _ _ _)).trans (Fr.alloc _ _ _)).bel (A9 _)
 go_wp2_with (go_at_call 91;refine(h91 _ hbw).mono ?_)
 rintro e w1 ⟨rfl,hb1⟩;have hs1:=hb1.size;have hP2:Pb w.heap.size s lim 0 0 w1:=(pb_new w N T s lim).fr (p:=(· <w.heap.size+5)) (by omega) ((Bel.fr hb1).imp λb _ hb=>by simp;omega);have hbw2:=hbw.trans (Bel.le hb1 (by simp;omega));clear hbw hb1 h91;obtain⟨W2,hW2⟩:∃W2,w1.alloc (.cells #[.int .i64 m0,.int .u64 m1,.int .u64 m2] 156)=W2:=⟨_,rfl⟩;have hP3:Pb w.heap.size s lim 0 0 W2:=hW2▸hP2.fr (p:=λ_=>True) (by simp) (Fr.alloc _ _ _);have hb3:Bel w.heap.size w W2:=hW2▸hbw2.trans ((Fr.alloc _ _ _).bel hbw2.size);obtain⟨d1,d2,d3,d4,d5,d6⟩:=hP3.cells;rcases hR with ⟨he,hR⟩|⟨rfl,hl,hR⟩|⟨rfl,hl,hR⟩
 ·have he':(e1==0)=false:=(by simpa using he);subst hR;obtain⟨hset,hfs⟩:=hP3.set 0 R;subst hW2
  go_wp2
  exact Bu (results_cell2 rfl _ _ _ _ _ _ rfl rfl (load_3 hset.cells.2.2.1) (load_35 hset.cells.2.2.2.1)) rfl ⟨rfl,hb3.trans ((hfs.imp λb _ hb=>by omega).bel hb3.size)⟩
 ·subst hR;obtain⟨hset,hfs⟩:=hP3.set 0 1;subst hW2
  go_wp2
  exact Bu (results_cell2 rfl _ _ _ _ _ _ rfl rfl (load_3 hset.cells.2.2.1) (load_35 hset.cells.2.2.2.1)) rfl ⟨rfl,hb3.trans ((hfs.imp λb _ hb=>by omega).bel hb3.size)⟩
 ·subst hR;obtain⟨hset,hfs⟩:=hP3.set 0 3;subst hW2
  go_wp2
  exact Bu (results_cell2 rfl _ _ _ _ _ _ rfl rfl (load_3 hset.cells.2.2.1) (load_35 hset.cells.2.2.2.1)) rfl ⟨rfl,hb3.trans ((hfs.imp λb _ hb=>by omega).bel hb3.size)⟩
namespace M55
structure gX where(n t s l:Int)
def g:Sg gX:=⟨[.agg [.it .i64,.it .u64],.c (.it .u64),.c (.it .i64)],[],λa b=>⟨a.1.1,a.1.2.1,a.2.1,a.2.2.1⟩,λx=>((x.n,(x.t,())),(x.s,(x.l,()))),λx=>()⟩
abbrev fY:=Int×Int
def f:Ft fY:=⟨none,.tup [.inl (.it .i64),.inl (.it .i64)],[],λa b=>(a.1,a.2.1),λy=>(y.1,(y.2,())),λy=>()⟩
def res(x:gX):fY:=bif decide (x.l<firstP x.l (M61.st x.n x.t x.s) x.s) then (0,3) else (firstP x.l (M61.st x.n x.t x.s) x.s,0)
def m(x:gX):Option fY:=bindO (M91.m ⟨x.n,x.t,x.s⟩) λy=>bif y.2.2.2 !=0 then some (0,y.2.2.2) else bif decide (x.l<0) then some (0,1) else bif decide (1048576<x.l) then some (0,3) else bif decide (0<=x.n) then some (res x) else none
theorem callable55:Jq Try.prog 55:=⟨Try.f55,Try.func55,by kernel_rfl,by kernel_rfl⟩
theorem args55{ι:Map}{w:World}{n t s l:Int}{cargs:Array Value}(ha:Ji ι w [.agg [.t (.int .i64 n),.t (.int .u64 t)],.c (.t (.int .u64 s)),.c (.t (.int .i64 l))] cargs):cargs= #[.agg #[.int .i64 n,.int .u64 t],.int .u64 s,.int .i64 l]:=by
 obtain⟨hsz,ha⟩:=ha;obtain⟨u,e0,h0⟩:=ha 0 (by simp);obtain⟨us,es,hs⟩:=ha 1 (by simp);obtain⟨ul,el,hl⟩:=ha 2 (by simp);have hs:TR ι.un w (.int .u64 s) us:=hs;have hl:TR ι.un w (.int .i64 l) ul:=hl;cases hs;cases hl;obtain⟨arr,rfl,h1,h2⟩:=h0;obtain⟨u1,e1,g1⟩:=h2 0 (by simp);obtain⟨u2,e2,g2⟩:=h2 1 (by simp);have g1:TR ι.un w (.int .i64 n) u1:=g1;have g2:TR ι.un w (.int .u64 t) u2:=g2;cases g1;cases g2;have ea:arr= #[.int .i64 n,.int .u64 t]:=by
  refine Bt (by simpa using h1) λi hi _=> ?_;have hi:i<2:=by simpa [h1] using hi
  match i,hi with
  |0,_=>exact(WF.1 e1).2
  |1,_=>exact(WF.1 e2).2
 refine Bt (by simpa using hsz) λi hi _=> ?_;have hi:i<3:=by simpa [hsz] using hi
 match i,hi with
 |0,_=>rw[(WF.1 e0).2,ea];rfl
 |1,_=>exact(WF.1 es).2
 |2,_=>exact(WF.1 el).2
theorem known:QM Try.prog 55 g f m:=by
 refine⟨λ_ _=>⟨rfl,rfl⟩,by decide,λx y hy=> ?_⟩;obtain⟨n,t,s,l⟩:=x;unfold m at hy;obtain⟨y1,hy1,hy⟩:=JN hy;have h91:Qo Try.prog 91 [.agg [.t (.int .i64 n),.t (.int .u64 t)],.c (.t (.int .u64 s))] [] λv τ=>v=.tup [.inr [.t (.int .i64 y1.1),.t (.int .u64 y1.2.1),.t (.int .u64 y1.2.2.1)],.inl (.t (.int .i64 y1.2.2.2))]/\τ=[]:=M91.known.ok ⟨n,t,s⟩ y1 hy1;show Qo Try.prog 55 [.agg [.t (.int .i64 n),.t (.int .u64 t)],.c (.t (.int .u64 s)),.c (.t (.int .i64 l))] [] λv τ=>v=.tup [.inl (.t (.int .i64 y.1)),.inl (.t (.int .i64 y.2))]/\τ=[];refine M61.fn_belW callable55 fun ι w cargs hH ha=> ?_;obtain rfl:=args55 ha
 have c91:∀w1,Bel w.heap.size w w1->Calls Try.prog 91 #[.agg #[.int .i64 n,.int .u64 t],.int .u64 s] w1 λe w'=>e=.returned (.tuple #[.agg #[.int .i64 y1.1,.int .u64 y1.2.1,.int .u64 y1.2.2.1],.int .i64 y1.2.2.2])/\Bel w1.heap.size w1 w':=λw1 hb=>
  (M32.Ws h91 hH (M61.args91 ι w n t s) hb rfl).mono λe w' ⟨⟨I',cv,h1,h2⟩,h3⟩=>⟨by rw[h1,M61.res91 h2],h3⟩
 have out:∀(w':World) (a b:Int),VR ι w' (.tup [.inl (.t (.int .i64 a)),.inl (.t (.int .i64 b))]) (.tuple #[.int .i64 a,.int .i64 b]):=λw' a b=>M61.resOut (TR.int _ _);have err:∀R,((y1.2.2.2≠0/\R=y1.2.2.2)\/(y1.2.2.2=0/\l<0/\R=1)\/(y1.2.2.2=0/\1048576<l/\R=3))->y=(0,R)->Calls Try.prog 55 #[.agg #[.int .i64 n,.int .u64 t],.int .u64 s,.int .i64 l] w λe w'=>(∃cv,e=.returned cv/\VR ι w' (.tup [.inl (.t (.int .i64 y.1)),.inl (.t (.int .i64 y.2))]) cv)/\Bel w.heap.size w w':=λR hR hy=>by subst hy;exact(per_err w n t s l y1.2.2.2 R _ _ _ hR c91).mono λe w' ⟨h1,h2⟩=>⟨⟨_,h1,out _ _ _⟩,h2⟩
 cases hz:(y1.2.2.2 !=0) with
 |true=>rw[hz]at hy;cases hy;exact err _ (.inl ⟨by simpa using hz,rfl⟩) rfl
 |false=>
  have h0:y1.2.2.2=0:=(by simpa using hz);rw[hz]at hy;by_cases hl:l<0
  ·simp only[AA,A5 hl,A7]at hy;cases hy;exact err _ (.inr (.inl ⟨h0,hl,rfl⟩)) rfl
  ·by_cases hb:1048576<l
   ·simp only[AA,A6 hl,A5 hb,A7]at hy;cases hy;exact err _ (.inr (.inr ⟨h0,hb,rfl⟩)) rfl
   ·by_cases hn:0<=n
    ·simp only[AA,A6 hl,A6 hb,A5 hn,A7]at hy;cases hy;obtain rfl:=M61.begin_ok hy1 h0;obtain⟨f1,f2,f3⟩:=firstP_spec (show 0<=l by omega) (M61.st n t s) s;refine Az.1 ((per_ok 0 w n t s l (M61.st n t s) rfl (M61.hst n t s hn) ⟨by omega,by omega⟩ _ f1 f2 f3 c91).mono ?_);rintro e w' ⟨h1,h2⟩;refine⟨⟨_,h1,?_⟩,h2⟩;have:res ⟨n,t,s,l⟩=(if l<firstP l (M61.st n t s) s then 0 else (firstP l (M61.st n t s) s:Int),if l<firstP l (M61.st n t s) s then 3 else 0):=by
      unfold res;by_cases h:l<firstP l (M61.st n t s) s
      ·simp only[A5 h,A7,AB h]
      ·simp only[A6 h,AA,AE h]
     rw[this];exact out _ _ _
    ·simp only[AA,A6 hl,A6 hb,A6 hn]at hy;cases hy
def con:Con:=J9 g f m default
theorem con_ok:QR Try.prog 55 con:=QG known (λ_=>rfl) rfl
end M55
end
section
open Go.Abs Go.RowKit
theorem fn_belO{f:FuncId}{args:List AV}{O:Q1}{v:AV}(hc:Jq Try.prog f)
  (h:∀ι w cargs,HR ι O w->Ji ι w args cargs->Calls Try.prog f cargs w λe w'=>(∃cv,e=.returned cv/\VR ι w' v cv)/\Bel w.heap.size w w'):
  Qo Try.prog f args O λu τ=>u=v/\τ=O:=by
 refine⟨hc,fun ι w cargs _ hH ha=> ?_⟩;refine BN (Az.2 (h ι w cargs hH ha)) λe w' ⟨⟨cv,he,hv⟩,hb⟩=> ?_;have hs:Step ι O w ι O w':=⟨A9 _,hb.size,hb.os,hb.out,λid s h1=>⟨s,h1,A9 _,λ_=>rfl⟩,λid _ h1=>h1,λid s l h1 h2=>.inr ⟨id,s,l,h1,h2,rfl⟩,rfl,rfl,λb hr=>hb.block b (hH.resRow b hr).lt,λb h1 _=>hb.block b h1⟩;refine⟨v,O,ι,cv,he,⟨rfl,rfl⟩,hv,⟨λid s h1=> ?_,hH.inj,λb hr=> ?_,hH.resNo⟩,hs⟩
 ·obtain⟨o,h2,h3,h4,h5⟩:=hH.obj id s h1;refine⟨o,h2,h3,h4,?_⟩
  cases hl:s.loc with
  |none=>rw[hl]at h5;exact h5
  |some l=>
   rw[hl]at h5;obtain⟨⟨cells,elem,h6,h7⟩,h8,h9⟩:=h5;have hblt:=(WF.1 h6).1;have hsame:=hb.block l.blk hblt;exact⟨⟨cells,elem,hsame.trans h6,h7⟩,h8,λi hi=>by
    obtain⟨u,g1,g2⟩:=h9 i hi;exact⟨u,(cell_same hsame _).trans g1,g2.step hs⟩⟩
 ·obtain⟨c,e,fr,h2⟩:=hH.resRow b hr;exact⟨c,e,fr,(hb.block b (WF.1 h2).1).trans h2⟩
theorem els_tree{w:World}{B:Nat}{a:Option Addr}{l:List Int}{k:Nat}(h:ElsU w B a l)(hk:l.length<=k)(ha:l=[]->True):TR Qf.un w (.imm (l.flatMap (Ly.int .u64).trees) l.length none) (.slice a l.length k):=by
 rw[M61.u64_trees]
 cases l with
 |nil=>exact TR.imm0 _ _ _ trivial
 |cons x l=>
  obtain⟨b,off,rfl,_,h2,_⟩:=h 0 (by simp);have hr:Zd w b:=by
   obtain⟨b',off',e,_,_,h3⟩:=h 0 (by simp);injection e with e;injection e with e1 e2;subst e1;subst e2;unfold World.cell? at h3;split at h3
   ·rename_i c e fr hh;exact⟨c,e,fr,hh⟩
   ·cases h3
  refine TR.imm _ _ none b off k (λi=>.int .u64 ((x::l)[i]?.getD 0)) (Zu b) hr trivial hk (λi hi=> ?_) (λi hi=> ?_)
  ·have hi:i<(x::l).length:=(by simpa using hi);obtain⟨b',off',e,_,_,h3⟩:=h i hi;injection e with e;injection e with e1 e2;subst e1;subst e2;rw[h3,A3 hi];rfl
  ·have hi':i<(x::l).length:=(by simpa using hi);rw[A3 hi',Al];simp only[AM];exact TR.int _ _
theorem calls_tree{f:FuncId}{args:List AV}{v:AV}(h:Qo Try.prog f args [] λu τ=>u=v/\τ=[]){w1:World}{cargs:Array Value}(ha:Ji Qf w1 args cargs):
  Calls Try.prog f cargs w1 λe w'=>(∃I' cv,e=.returned cv/\VR I' w' v cv)/\Bel w1.heap.size w1 w':=by
 refine Az.1 (BN (h.2 Qf w1 cargs (λg c x h=>by cases h) (WK w1) ha) λe w' ⟨v',A',I',cv,he,⟨h1,h2⟩,h3,h4,h5⟩=> ?_);subst h1;subst h2;exact⟨⟨I',cv,he,h3⟩,⟨h5.os,h5.out,h5.size,λb hb=>h5.frame b hb (Zu b)⟩⟩
theorem argsD{w:World}{B:Nat}{n t c:Int}{l:List Int}{a:Option Addr}{k:Nat}(h:ElsU w B a l)(hk:l.length<=k):
  Ji Qf w [.agg [.t (.int .i64 n),.t (.int .u64 t),.t (.imm (l.flatMap (Ly.int .u64).trees) l.length none),.t (.int .i64 c)]] #[.agg #[.int .i64 n,.int .u64 t,.slice a l.length k,.int .i64 c]]:=by
 refine⟨rfl,λi hi=> ?_⟩;have hi:i<1:=hi
 match i,hi with
 |0,_=>
  refine⟨_,rfl,_,rfl,rfl,λj hj=> ?_⟩;have hj:j<4:=hj
  match j,hj with
  |0,_=>exact⟨_,rfl,TR.int _ _⟩
  |1,_=>exact⟨_,rfl,TR.int _ _⟩
  |2,_=>exact⟨_,rfl,els_tree h hk λ_=>trivial⟩
  |3,_=>exact⟨_,rfl,TR.int _ _⟩
theorem argO{ι:Map}{w:World}{n t c:Int}{l:List Int}{u:Value}(hH:HR ι [⟨(l.flatMap (Ly.int .u64).trees).map Cell.t,1,0⟩] w)
  (h0:Jj ι w [.t (.int .i64 n),.t (.int .u64 t),.sl ⟨0,0,0*1⟩ l.length none,.t (.int .i64 c)] u):
  ∃a k,u=.agg #[.int .i64 n,.int .u64 t,.slice a l.length k,.int .i64 c]/\ElsU w w.heap.size a l/\l.length<=k:=by
 obtain⟨arr,rfl,h1,h2⟩:=h0;obtain⟨u1,e1,g1⟩:=h2 0 (by simp);obtain⟨u2,e2,g2⟩:=h2 1 (by simp);obtain⟨u3,e3,g3⟩:=h2 2 (by simp);obtain⟨u4,e4,g4⟩:=h2 3 (by simp);have g1:TR ι.un w (.int .i64 n) u1:=g1;have g2:TR ι.un w (.int .u64 t) u2:=g2;have g4:TR ι.un w (.int .i64 c) u4:=g4;cases g1;cases g2;cases g4;obtain⟨a,k,rfl,_,s,q1,q2,q3⟩:=g3;obtain⟨ob,q4,q5⟩:=hH.obj 0 s q1;cases q4;obtain⟨q6,q7,q8⟩:=q5;obtain⟨q9,q10,q11⟩:=q3 q7;have ea:arr= #[.int .i64 n,.int .u64 t,.slice a l.length k,.int .i64 c]:=by
  refine Bt (by simpa using h1) λi hi _=> ?_;have hi:i<4:=by simpa [h1] using hi
  match i,hi with
  |0,_=>exact(WF.1 e1).2
  |1,_=>exact(WF.1 e2).2
  |2,_=>exact(WF.1 e3).2
  |3,_=>exact(WF.1 e4).2
 refine⟨a,k,by rw[ea],λi hi=> ?_,q9⟩
 cases hl:s.loc with
 |none=>rw[hl]at q11;have:=q11.1;omega
 |some lo=>rw[hl]at q8 q11;obtain⟨⟨cells,elem,z1,z2⟩,z3,z4⟩:=q8;have hlen:((l.flatMap (Ly.int .u64).trees).map Cell.t).length=l.length:=(by rw[M61.u64_trees];simp);obtain⟨v0,z5,z6⟩:=z4 i (by show i<((l.flatMap (Ly.int .u64).trees).map Cell.t).length;rw[hlen];exact hi);have hget:((l.flatMap (Ly.int .u64).trees).map Cell.t)[i]? =some (.t (.int .u64 l[i])):=(by rw[M61.u64_trees];simp[hi]);have z6:CR ι w (((l.flatMap (Ly.int .u64).trees).map Cell.t)[i]'(by rw[hlen];exact hi)) v0:=z6;rw[(AF.1 hget).2]at z6;have z6:TR ι.un w (.int .u64 l[i]) v0:=z6;cases z6;exact⟨lo.blk,lo.sh,by simpa using q11.1,(WF.1 z1).1,(WF.1 z1).1,z5⟩
theorem un_newO{ι:Map}{O:Q1}{w:World}(hH:HR ι O w){b:Nat}(hb:w.heap.size<=b):ι.un b:=by
 rintro(⟨id,s,l,h,h2,h3⟩|h)
 ·obtain⟨o,_,_,_,h5⟩:=hH.obj id s h;rw[h2]at h5;obtain⟨⟨_,_,h6,_⟩,_⟩:=h5;have:=(WF.1 h6).1;omega
 ·have:=(hH.resRow b h).lt;omega
namespace M61o
structure gX where(n t:Int)(lo len:Nat)(c s:Int)(ph:List Int)
def g:Sg gX:=⟨[.agg [.it .i64,.it .u64,.sl 0 0 1,.it .i64],.c (.it .u64)],[.arr (.int .u64) 0],λa b=>⟨a.1.1,a.1.2.1,a.1.2.2.1.1,a.1.2.2.1.2,a.1.2.2.2.1,a.2.1,b.1⟩,λx=>((x.n,(x.t,((x.lo,x.len),(x.c,())))),(x.s,())),λx=>(x.ph,())⟩
abbrev fY:=List (List Int)×Int×List Int
def f:Ft fY:=⟨none,.tup [.inl (.arr (.sl (.int .u8))),.inl (.it .i64)],[.arr (.int .u64) 0],λa b=>(a.1,a.2.1,b.1),λy=>(y.1,(y.2.1,())),λy=>(y.2.2,())⟩
def m(x:gX):Option fY:=bif eqN x.lo 0&&eqN x.len x.ph.length then bindO (M61.m ⟨x.n,x.t,x.ph,x.c,x.s⟩) λy=>some (y.1,y.2,x.ph) else none
theorem known:QM Try.prog 61 g f m:=by
 refine⟨λ_ _=>⟨rfl,rfl⟩,by decide,λx y hy=> ?_⟩;obtain⟨n,t,lo,len,c,s,ph⟩:=x;unfold m at hy
 cases hq:(eqN lo 0&&eqN len ph.length) with
 |false=>simp only[hq]at hy;cases hy
 |true=>
  simp only[hq,A7]at hy;rw[AC]at hq;obtain rfl:lo=0:=(by simpa [eqN] using hq.1);obtain rfl:len=ph.length:=(by simpa [eqN] using hq.2);obtain⟨y0,hy0,hy⟩:=JN hy;cases hy;show Qo Try.prog 61 [.agg [.t (.int .i64 n),.t (.int .u64 t),.sl ⟨0,0,0*1⟩ ph.length none,.t (.int .i64 c)],.c (.t (.int .u64 s))] [⟨(ph.flatMap (Ly.int .u64).trees).map Cell.t,1,0⟩] λv τ=>v=.tup [.inl (.t (.imm (y0.1.flatMap (Ly.sl (.int .u8)).trees) y0.1.length none)),.inl (.t (.int .i64 y0.2))]/\τ=[⟨(ph.flatMap (Ly.int .u64).trees).map Cell.t,1,0⟩];refine fn_belO M61.callable61 fun ι w cargs hH ha=> ?_;obtain⟨hsz,ha⟩:=ha;obtain⟨u,e0,h0⟩:=ha 0 (by simp);obtain⟨us,es,hs⟩:=ha 1 (by simp);have hs:TR ι.un w (.int .u64 s) us:=hs;cases hs;obtain⟨a,k,rfl,hel,hk⟩:=argO hH h0;have ec:cargs= #[.agg #[.int .i64 n,.int .u64 t,.slice a ph.length k,.int .i64 c],.int .u64 s]:=by
   refine Bt (by simpa using hsz) λi hi _=> ?_;have hi:i<2:=by simpa [hsz] using hi
   match i,hi with
   |0,_=>exact(WF.1 e0).2
   |1,_=>exact(WF.1 es).2
  subst ec;unfold M61.m at hy0;obtain⟨e1,he1,hy⟩:=JN hy0;have h72:Qo Try.prog 72 [.agg [.t (.int .i64 n),.t (.int .u64 t),.t (.imm (ph.flatMap (Ly.int .u64).trees) ph.length none),.t (.int .i64 c)]] [] λv τ=>v=.c (.t (.int .i64 e1))/\τ=[]:=M72.known.ok ⟨n,t,ph,c⟩ e1 he1
  have c72:∀w1,Bel w.heap.size w w1->Calls Try.prog 72 #[.agg #[.int .i64 n,.int .u64 t,.slice a ph.length k,.int .i64 c]] w1 λe w'=>e=.returned (.int .i64 e1)/\Bel w1.heap.size w1 w':=λw1 hb=>
   (calls_tree h72 (argsD (hel.fr (Bel.fr hb)) hk)).mono λe w' ⟨⟨I',cv,h1,h2⟩,h3⟩=>⟨by rw[h1,M61.res72 h2],h3⟩
  cases hz1:(e1 !=0) with
  |true=>rw[hz1]at hy;cases hy;exact(expand_err1 w n t s c e1 ph a k (by simpa using hz1) c72).mono λe w' ⟨h1,h2⟩=>⟨⟨_,h1,M61.resOut (TR.imm0 _ _ _ trivial)⟩,h2⟩
  |false=>
   obtain rfl:e1=0:=(by simpa using hz1);rw[hz1]at hy;obtain⟨y1,hy1,hy⟩:=JN hy;have h91:Qo Try.prog 91 [.agg [.t (.int .i64 n),.t (.int .u64 t)],.c (.t (.int .u64 s))] [] λv τ=>v=.tup [.inr [.t (.int .i64 y1.1),.t (.int .u64 y1.2.1),.t (.int .u64 y1.2.2.1)],.inl (.t (.int .i64 y1.2.2.2))]/\τ=[]:=M91.known.ok ⟨n,t,s⟩ y1 hy1
   have c91:∀w1,Bel w.heap.size w w1->Calls Try.prog 91 #[.agg #[.int .i64 n,.int .u64 t],.int .u64 s] w1 λe w'=>e=.returned (.tuple #[.agg #[.int .i64 y1.1,.int .u64 y1.2.1,.int .u64 y1.2.2.1],.int .i64 y1.2.2.2])/\Bel w1.heap.size w1 w':=λw1 hb=>
    (calls_tree h91 (M61.args91 Qf w1 n t s)).mono λe w' ⟨⟨I',cv,h1,h2⟩,h3⟩=>⟨by rw[h1,M61.res91 h2],h3⟩
   cases hz2:(y1.2.2.2 !=0) with
   |true=>rw[hz2]at hy;cases hy;exact(expand_err2 w n t s c y1.2.2.2 undef ph a k (by simpa using hz2) _ _ _ c72 c91).mono λe w' ⟨h1,h2⟩=>⟨⟨_,h1,M61.resOut (TR.imm0 _ _ _ trivial)⟩,h2⟩
   |false=>
    have h0:y1.2.2.2=0:=(by simpa using hz2);obtain rfl:=M61.begin_ok hy1 h0;rw[hz2]at hy
    cases hok:M61.okE ⟨n,t,ph,c,s⟩ with
    |false=>rw[hok]at hy;cases hy
    |true=>rw[hok]at hy;cases hy;simp only[M61.okE,AC,By,Aj]at hok;obtain⟨⟨⟨⟨hn,hc⟩,hl⟩,hc1⟩,hc2⟩:=hok;refine(expand_ok w n t c (M61.st n t s) (M61.hst n t s hn) M61.pr M61.hpr ph a k hel hl (λh=>hc.resolve_left h) ⟨hc1,hc2⟩ c72 c91).mono ?_;rintro e w' ⟨bo,br,rb,he,ho,hb,hbr,hrb⟩;exact⟨⟨_,he,M61.resOut (M61.out_tree ho (un_newO hH hbr) λj hj=>un_newO hH (hrb j hj))⟩,hb⟩
def con:Con:=UP g [.arg 0 2] f m default
theorem con_ok:QR Try.prog 61 con:=XX known
end M61o
namespace M97o
structure gX where(n t:Int)(lo len:Nat)(c:Int)(ph:List Int)
def g:Sg gX:=⟨[.agg [.it .i64,.it .u64,.sl 0 0 1,.it .i64]],[.arr (.int .u64) 0],λa b=>⟨a.1.1,a.1.2.1,a.1.2.2.1.1,a.1.2.2.1.2,a.1.2.2.2.1,b.1⟩,λx=>((x.n,(x.t,((x.lo,x.len),(x.c,())))),()),λx=>(x.ph,())⟩
abbrev fY:=Int×List (Int×List Int)×List Int
def f:Ft fY:=⟨none,.agg [.it .i64,.arr (.pair (.int .i64) (.sl (.int .u64)))],[.arr (.int .u64) 0],λa b=>(a.1,a.2.1,b.1),λy=>(y.1,(y.2.1,())),λy=>(y.2.2,())⟩
def m(x:gX):Option fY:=bif eqN x.lo 0&&eqN x.len x.ph.length then bindO (M97.m ⟨x.n,x.t,x.ph,x.c⟩) λy=>some (y.1,y.2,x.ph) else none
theorem known:QM Try.prog 97 g f m:=by
 refine⟨λ_ _=>⟨rfl,rfl⟩,by decide,λx y hy=> ?_⟩;obtain⟨n,t,lo,len,c,ph⟩:=x;unfold m at hy
 cases hq:(eqN lo 0&&eqN len ph.length) with
 |false=>simp only[hq]at hy;cases hy
 |true=>
  simp only[hq,A7]at hy;rw[AC]at hq;obtain rfl:lo=0:=(by simpa [eqN] using hq.1);obtain rfl:len=ph.length:=(by simpa [eqN] using hq.2);obtain⟨y0,hy0,hy⟩:=JN hy;cases hy;show Qo Try.prog 97 [.agg [.t (.int .i64 n),.t (.int .u64 t),.sl ⟨0,0,0*1⟩ ph.length none,.t (.int .i64 c)]] [⟨(ph.flatMap (Ly.int .u64).trees).map Cell.t,1,0⟩] λv τ=>v=.agg [.t (.int .i64 y0.1),.t (.imm (y0.2.flatMap (Ly.pair (.int .i64) (.sl (.int .u64))).trees) y0.2.length none)]/\τ=[⟨(ph.flatMap (Ly.int .u64).trees).map Cell.t,1,0⟩];refine fn_belO M97.callable97 fun ι w cargs hH ha=> ?_;obtain⟨hsz,ha⟩:=ha;obtain⟨u,e0,h0⟩:=ha 0 (by simp);obtain⟨a,k,rfl,hel,hk⟩:=argO hH h0;have ec:cargs= #[.agg #[.int .i64 n,.int .u64 t,.slice a ph.length k,.int .i64 c]]:=by
   refine Bt (by simpa using hsz) λi hi _=> ?_;have hi:i<1:=by simpa [hsz] using hi
   match i,hi with
   |0,_=>exact(WF.1 e0).2
  subst ec;unfold M97.m at hy0
  cases hp:ph.isEmpty with
  |true=>obtain rfl:=List.isEmpty_iff.1 hp;simp only[List.isEmpty_nil]at hy0;cases hy0;exact(eqs_nil w n t c a k).mono λe w' ⟨h1,h2⟩=>⟨⟨_,h1,M97.resOut (TR.imm0 _ _ _ trivial)⟩,h2⟩
  |false=>
   simp only[hp,AA]at hy0;have hp0:ph≠[]:=λe=>by rw[e]at hp;cases hp
   cases hok:M97.okE ⟨n,t,ph,c⟩ with
   |false=>rw[hok]at hy0;cases hy0
   |true=>rw[hok]at hy0;cases hy0;simp only[M97.okE,AC,Aj]at hok;obtain⟨⟨⟨⟨h1,h2⟩,h3⟩,h4⟩,h5⟩:=hok;obtain⟨cn,rfl⟩:=AH h3;refine(eqs_ok w n t cn (M61.st n t) (λ_=>rfl) (λs k=>M61.hst n t s (by omega) k) M61.pr M61.hpr ph a k hel h5 hp0 (by omega) ⟨h1,h2⟩).mono ?_;rintro e w' ⟨bo,v,rb,he,hE,hb,hbo⟩;exact⟨⟨_,he,M97.resOut (M97.eq_tree hE λb hb=>un_newO hH (by omega))⟩,hb⟩
def con:Con:=UP g [.arg 0 2] f m default
theorem con_ok:QR Try.prog 97 con:=XX known
end M97o
namespace M72r
def con:Con:=Vx M72.g M72.f M72.m default
theorem con_ok:QR Try.prog 72 con:=conFR_ok M72.known (λ_=>rfl) (λ_=>rfl)
end M72r
namespace M96r
def con:Con:=Vx M96.g M96.f M96.m default
theorem con_ok:QR Try.prog 96 con:=conFR_ok M96.known (λ_=>rfl) (λ_=>rfl)
end M96r
end
