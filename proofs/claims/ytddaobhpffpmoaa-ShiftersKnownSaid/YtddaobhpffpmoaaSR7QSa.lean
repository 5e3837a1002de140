/- A part of the proof. -/
import Derived.Test.YtddaobhpffpmoaaSR7QGs
import Derived.Test.YtddaobhpffpmoaaSR7QGj
import Derived.Test.YtddaobhpffpmoaaSR7QAbsX
import Derived.RangeFuncNested
import Derived.RangeFuncBound
import Derived.RangeFuncCalls
import Derived.RangeFuncLeaves
import Derived.WalkKit
import Derived.OwnWalkIn
import Derived.TacticsInMore
import Derived.LoopNIn
import Derived.LoopIn
set_option linter.all false
set_option maxRecDepth 100000
set_option maxHeartbeats 4000000
namespace Go.Proofs.Ytddaobhpffpmoaa
section
open Go.RowKit
structure Fr(p:Nat->Prop)(w w':World):Prop where
 os:w'.os=w.os
 out:w'.output=w.output
 size:w.heap.size<=w'.heap.size
 keep:∀b,b<w.heap.size->p b->w'.heap[b]? =w.heap[b]?
theorem Fr.refl(p:Nat->Prop)(w:World):Fr p w w:=⟨rfl,rfl,A9 _,λ_ _ _=>rfl⟩
theorem Fr.trans{p:Nat->Prop}{w w1 w2:World}(h:Fr p w w1)(h':Fr p w1 w2):Fr p w w2:=
 ⟨h'.os.trans h.os,h'.out.trans h.out,Ao h.size h'.size,λb hb hp=>(h'.keep b (AL hb h.size) hp).trans (h.keep b hb hp)⟩
theorem Fr.imp{p q:Nat->Prop}{w w':World}(h:Fr p w w')(hq:∀b,b<w.heap.size->q b->p b):Fr q w w':=⟨h.os,h.out,h.size,λb hb hp=>h.keep b hb (hq b hb hp)⟩
theorem Fr.alloc(p:Nat->Prop)(w:World)(o:Obj):Fr p w (w.alloc o):=⟨rfl,rfl,by simp,λb hb _=>Below.heap_alloc w o b hb⟩
theorem Fr.putObj{p:Nat->Prop}(w:World)(l:Nat)(o:Obj)(hl:¬p l):Fr p w (w.putObj l o):=
 ⟨rfl,rfl,by simp,λb _ hp=>B2 (λe=>hl (e▸hp))⟩
theorem Fr.drew(p:Nat->Prop)(w:World):Fr p w w.drew:=⟨rfl,rfl,A9 _,λ_ _ _=>rfl⟩
theorem Fr.setCell{p:Nat->Prop}(w:World)(a:Addr)(v:Value)(hl:¬p a.block):Fr p w (w.setCell a v):=
 ⟨rfl,rfl,by simp[World.setCell],λb _ hp=>Below.heap_setCell w a v b (λe=>hl (e▸hp))⟩
theorem Fr.bel{B:Nat}{w w':World}(h:Fr (· <B) w w')(hB:B<=w.heap.size):Bel B w w':=⟨h.os,h.out,h.size,λb hb=>h.keep b (AL hb hB) hb⟩
theorem Bel.fr{B:Nat}{w w':World}(h:Bel B w w'):Fr (· <B) w w':=⟨h.os,h.out,h.size,λb _ hb=>h.block b hb⟩
def SeqC(n:Nat)(P:Program)(gf:Nat)(lb:Array Value)(enc:Nat->Array Value)(bm:Nat)(o:Obj)(N:Nat):Prop:=
 ∀(l:Nat) (J:Nat->World->Prop) (Jx:World->Prop) (W:World),
  (∀k W1 W2,J k W1->Fr (· ≠bm) W1 W2->J k W2)->
  (∀k W1,J k W1->k<=N->YieldAt Fence.wide (n - 1) P l (enc k) W1 λe W'=>
   (e=.returned (.bool true)/\k<N/\J (k+1) W'/\W'.heap[bm]? =W1.heap[bm]?)\/(e=.returned (.bool false)/\Jx W'))->
  J 0 W->W.heap[bm]? =some o->
  CallsIn Fence.wide n P gf (#[.func (.yield l) #[] #[]]++lb) W λe W'=>(∃v,e=.returned v)/\Jx W'
def rngPost(id B bm:Nat)(I:Nat->World->Prop)(Ix:World->Prop)(N k:Nat)(W:World):Exit->Act->World->Prop
 |.normal,_,W'=>k<N/\I (k+1) W'/\Fr (λb=>b=bm\/b=B\/b=B+1) W W'
 |.exit j,_,W'=>j=id/\Ix W'/\Fr (λb=>b=bm\/b=B\/b=B+1) W W'
 |_,_,_=>False
theorem rng_law{P:Program}{n:Nat}{g:Operand}{ps:Array Tmp}{assign body:Code}{Q:Exit->Act->World->Prop}{a:Act}{w:World}
  {gf:Nat} {lb:Array Value} (hg:a.eval g=.func (.func gf) #[] lb) (eg:∀args w,(callFunc gf args).run P w=.ok (.enter gf args) w)
  {enc:Nat->Array Value} {bm:Nat} {o:Obj} (hbm:bm<w.heap.size) (ho:w.heap[bm]? =some o) {N:Nat} (hseq:SeqC (n - 1) P gf lb enc bm o N) (hps:∀k,(enc k).size=ps.size)
  (id:Nat) (I:Nat->World->Prop) (Ix:World->Prop)
  (hI:∀k W W',I k W->Fr (λb=>b<w.heap.size/\b≠bm) W W'->I k W') (hIx:∀W W',Ix W->Fr (λb=>b<w.heap.size/\b≠bm) W W'->Ix W') (h0:I 0 w) (a₁:Nat->Act)
  (hassign:∀(l k:Nat) (W:World) (K:Act->World->Prop),K (a₁ k) W->
   assign.wpIn (Fence.wide.inRound l) (n - 1 - 1) P (Exit.then K (λ_ _ _=>False)) { tmps:=(ps.zip (enc k)).foldl (λt (p,v)=>t.setIfInBounds p v) a.tmps,defers:=[] } W)
  (hbody:∀(l k:Nat) (W:World),I k W->k<=N->w.heap.size+2<=W.heap.size->body.wpIn (Fence.wide.inRound l) (n - 1 - 1) P (rngPost id w.heap.size bm I Ix N k W) (a₁ k) W)
  (hstop:∀(D:Nat) (W:World),w.heap.size<=D->Ix W->W.heap[D]? =some (.deferred (some []))->(Code.exit id).wpIn Fence.wide n P Q { a with defers:={ target:=.collected D,args:= #[] }::a.defers } W):
  (Code.rangeFunc g ps assign body).wpIn Fence.wide n P Q a w:=by
 refine wpIn_rangeFunc ?_;intro fn hfn;obtain⟨rec,hrec⟩:∃rec:LoopState->Option Code->Loop,rec=λst pe=>{ state:=st,pending:=pe,fn,tmps:=a.tmps,params:=ps,assign,body,defers:=w.heap.size }:=⟨_,rfl⟩;obtain⟨W1,hW1⟩:∃W1,(w.alloc (.deferred (some []))).alloc (.loop (rec .ready none))=W1:=⟨_,rfl⟩;have hL1:W1.heap[w.heap.size+1]? =some (.loop (rec .ready none)):=by rw[<-hW1];have:=AI (w.alloc (.deferred (some []))) (.loop (rec .ready none));rwa [AU]at this
 have hK1:W1.heap[w.heap.size]? =some (.deferred (some [])):=by rw[<-hW1];exact(Below.heap_alloc _ _ _ (by simp)).trans (AI w _)
 have hF1:∀p,Fr p w W1:=λp=>by rw[<-hW1];exact(Fr.alloc p _ _).trans (Fr.alloc p _ _)
 have hput:∀(W:World) (q:Obj),Fr (λb=>b<w.heap.size/\b≠bm) W (W.putObj (w.heap.size+1) q):=λW q=>Fr.putObj _ _ _ (λh=>by omega)
 refine⟨w.heap.size+1,[{ target:=.collected w.heap.size,args:= #[] }],W1,{ target:=.fn (.func gf) lb,args:= #[.func (.yield (w.heap.size+1)) #[] #[]] },W1,gf,
  #[.func (.yield (w.heap.size+1)) #[] #[]]++lb,W1,?_,?_,?_,?_,λh=>(by cases h),?_⟩
 ·rw[<-hW1,hrec];exact run_enterLoop_outer _ _ _ _ _
 ·simp only[resolve,hg];simp[go_sem]
 ·intro f' hf';trivial
 ·simp[invoke,go_sem,eg]
 ·refine(hseq (w.heap.size+1)
   (λk W=>I k W/\W.heap[w.heap.size+1]? =some (.loop (rec .ready none))/\W.heap[w.heap.size]? =some (.deferred (some [])))
   (λW=>Ix W/\W.heap[w.heap.size+1]? =some (.loop (rec .done (some (.exit id))))/\W.heap[w.heap.size]? =some (.deferred (some [])))
   W1
   (λk A B hs hf=>⟨hI k A B hs.1 (hf.imp λb _ h=>h.2),(hf.keep _ (WF.1 hs.2.1).1 (by omega)).trans hs.2.1,(hf.keep _ (WF.1 hs.2.2).1 (by omega)).trans hs.2.2⟩)
   ?_ ⟨hI _ _ _ h0 (hF1 _),hL1,hK1⟩ (((hF1 (λ_=>True)).keep bm hbm trivial).trans ho)).mono ?_
  ·rintro k W ⟨hi,hl,hk⟩ hlen;have hlt:w.heap.size+1<W.heap.size:=(WF.1 hl).1;have hy:=run_yield (P:=P) (args:=enc k) hl (by rw[hrec];exact hps k);rw[hrec]at hy;refine⟨fn,_,assign,body,hy,roundIn_of_wpIn hfn (hassign _ k W _ ⟨_,run_beginRound hl (by rw[hrec]),?_⟩)⟩;have hl2:(W.putObj (w.heap.size+1) (.loop { rec .ready none with state:=.busy })).heap[w.heap.size+1]? =some (.loop { rec .ready none with state:=.busy }):=C0 hlt;have hk2:(W.putObj (w.heap.size+1) (.loop { rec .ready none with state:=.busy })).heap[w.heap.size]? =some (.deferred (some [])):=(B2 (by omega)).trans hk;have hm2:(W.putObj (w.heap.size+1) (.loop { rec .ready none with state:=.busy })).heap[bm]? =W.heap[bm]? :=B2 (by omega);refine C7 (hbody _ k _ (hI _ _ _ hi (hput _ _)) hlen (by simp;omega)) ?_;have fin:∀(jump:Option Code) (W3:World),Fr (λb=>b=bm\/b=w.heap.size\/b=w.heap.size+1) (W.putObj (w.heap.size+1) (.loop { rec .ready none with state:=.busy })) W3->
     (Instr.endRound (w.heap.size+1) jump).run P W3=.ok (.bool jump.isNone) (W3.putObj (w.heap.size+1) (.loop (rec (if jump.isNone then .ready else .done) jump)))/\
     (W3.putObj (w.heap.size+1) (.loop (rec (if jump.isNone then .ready else .done) jump))).heap[w.heap.size+1]? =some (.loop (rec (if jump.isNone then .ready else .done) jump))/\
     (W3.putObj (w.heap.size+1) (.loop (rec (if jump.isNone then .ready else .done) jump))).heap[w.heap.size]? =some (.deferred (some []))/\
     (W3.putObj (w.heap.size+1) (.loop (rec (if jump.isNone then .ready else .done) jump))).heap[bm]? =W.heap[bm]? :=λjump W3 hk3=>by
    have hl3:=(hk3.keep (w.heap.size+1) (by simp;omega) (.inr (.inr rfl))).trans hl2;have:=run_endRound (P:=P) jump hl3;rw[hrec]at this⊢;exact⟨this,C0 (WF.1 hl3).1,(B2 (by omega)).trans ((hk3.keep w.heap.size (by simp;omega) (.inr (.inl rfl))).trans hk2),
     (B2 (by omega)).trans ((hk3.keep bm (by simp;omega) (.inl rfl)).trans hm2)⟩
   rintro e a3 W3 hp
   cases e with
   |normal=>obtain⟨hkN,hi3,hk3⟩:=hp;obtain⟨hr,hl4,hk4,hm4⟩:=fin none W3 hk3;exact⟨_,_,hr,.inl ⟨rfl,hkN,⟨hI _ _ _ hi3 (hput _ _),hl4,hk4⟩,hm4⟩⟩
   |exit j=>obtain⟨rfl,hi3,hk3⟩:=hp;obtain⟨hr,hl4,hk4,hm4⟩:=fin (some (.exit j)) W3 hk3;exact⟨_,_,hr,.inr ⟨rfl,hIx _ _ hi3 (hput _ _),hl4,hk4⟩⟩
   |ret=>exact hp.elim
   |goto t=>exact hp.elim
   |panic ch=>exact hp.elim
   |outgrown=>exact hp.elim
  ·rintro e W2 ⟨⟨v,rfl⟩,hi,hl,hk⟩;exact⟨some (.exit id),_,by have:=run_endLoop (P:=P) hl (by rw[hrec];simp);rw[hrec]at this;exact this,hstop _ _ (A9 _) (hIx _ _ hi (hput _ _)) ((B2 (by omega)).trans hk)⟩
end
section
open Go.RowKit
structure MB(W:World)(b:Nat)(n t s:Int):Prop where
 row:∃cells elem,W.heap[b]? =some (.cells cells elem (0,0))/\3<=cells.size
 c0:W.cell? ⟨b,0,none⟩=some (.int .i64 n)
 c1:W.cell? ⟨b,1,none⟩=some (.int .u64 t)
 c2:W.cell? ⟨b,2,none⟩=some (.int .u64 s)
theorem cell_same{W W':World}{b:Nat}(h:W'.heap[b]? =W.heap[b]?)(o:Nat):W'.cell? ⟨b,o,none⟩=W.cell? ⟨b,o,none⟩:=by unfold World.cell?;rw[h]
theorem MB.same{W W':World}{b:Nat}{n t s:Int}(h:MB W b n t s)(he:W'.heap[b]? =W.heap[b]?):MB W' b n t s:=
 ⟨by obtain⟨c,e,h1,h2⟩:=h.row;exact⟨c,e,he.trans h1,h2⟩,(cell_same he 0).trans h.c0,(cell_same he 1).trans h.c1,(cell_same he 2).trans h.c2⟩
theorem MB.of{W:World}{b:Nat}{n t s:Int}{e:TypeId}(h:W.heap[b]? =some (.cells #[.int .i64 n,.int .u64 t,.int .u64 s] e (0,0))):MB W b n t s:=
 ⟨⟨_,_,h,by simp⟩,by simp[World.cell?,h],by simp[World.cell?,h],by simp[World.cell?,h]⟩
open Go.Abs in def mapB (b : Nat) : Map := ⟨λid => if id = 0 then some ⟨some ⟨b,0,3⟩,1,0⟩ else none,λ_ => False,⟨undef,λ_ => undef,0,default⟩⟩
open Go.Abs in
theorem next_calls{W:World}{b:Nat}{n t s n' t' s':Int}(hy:M93.m ⟨n,t,s⟩=some (n',t',s'))(h:MB W b n t s):
  Calls Try.prog 93 #[.pointer (some ⟨b,0,none⟩)] W λe W'=>(∃v,e=.returned v)/\MB W' b n' t' s'/\Fr (· ≠b) W W':=by
 have hf:=M93.known.ok ⟨n,t,s⟩ _ hy;have hf:Qo Try.prog 93 [.c (.ptr ⟨0,0,0⟩)] [⟨[.t (.int .i64 n),.t (.int .u64 t),.t (.int .u64 s)],1,0⟩] λv τ=>v=(M93.f.V (n',t',s')).den/\τ=[⟨[.t (.int .i64 n'),.t (.int .u64 t'),.t (.int .u64 s')],1,0⟩]:=hf;rw[<-Az (n:=0)];obtain⟨cells,elem,hb1,hb2⟩:=h.row;have hHR:HR (mapB b) [⟨[.t (.int .i64 n),.t (.int .u64 t),.t (.int .u64 s)],1,0⟩] W:=by
  refine⟨λid s0 h0=> ?_,λid id' s1 s2 l l' h1 h2 _ _ _=> ?_,λ_ h=>h.elim,λ_ _ _ _ _ h=>h.elim⟩
  ·simp only[mapB]at h0;split at h0
   ·rename_i e;subst e;cases h0;refine⟨_,rfl,rfl,rfl,⟨cells,elem,hb1,by simpa using hb2⟩,by simp,λi hi=> ?_⟩;have hi:i<3:=hi
    match i,hi with
    |0,_=>exact⟨_,h.c0,TR.int _ _⟩
    |1,_=>exact⟨_,h.c1,TR.int _ _⟩
    |2,_=>exact⟨_,h.c2,TR.int _ _⟩
   ·cases h0
  ·simp only[mapB]at h1 h2;split at h1
   ·split at h2
    ·rename_i e e';rw[e,e']
    ·cases h2
   ·cases h1
 have hun:∀k,k≠b->(mapB b).un k:=λk hk hm=>by
  rcases hm with ⟨id,s0,l,h1,h2,h3⟩|h1
  ·simp only[mapB]at h1;split at h1
   ·cases h1;cases h2;exact hk h3.symm
   ·cases h1
  ·exact h1
 refine BN (hf.2 (mapB b) W _ (λ_ _ _ h=>by cases h) hHR ⟨rfl,λi hi=> ?_⟩) ?_
 ·have hi:i<1:=hi
  match i,hi with
  |0,_=>exact⟨_,rfl,⟨b,0,none⟩,rfl,⟨some ⟨b,0,3⟩,1,0⟩,rfl,A9 _,λ_=>⟨⟨b,0,3⟩,rfl,rfl⟩⟩
 ·rintro e w' ⟨v,A',I',cv,rfl,⟨_,rfl⟩,_,hH',hs⟩;refine⟨⟨_,rfl⟩,?_,⟨hs.os,hs.out,hs.size,λk hk hne=>hs.frame k hk (hun k hne)⟩⟩;obtain⟨s1,h1,h2,h3⟩:=hs.keep 0 _ (show(mapB b) 0=some ⟨some ⟨b,0,3⟩,1,0⟩ from rfl);obtain⟨o,h4,h5⟩:=hH'.obj 0 s1 h1;cases h4;have e1:s1=⟨some ⟨b,0,3⟩,1,0⟩:=h3 h5.2.1;subst e1;obtain⟨_,_,⟨cells',elem',h6,h7⟩,_,h8⟩:=h5;obtain⟨v0,g0,k0⟩:=h8 0 (by simp);obtain⟨v1,g1,k1⟩:=h8 1 (by simp);obtain⟨v2,g2,k2⟩:=h8 2 (by simp);have k0:TR I'.un w' (.int .i64 n') v0:=k0;have k1:TR I'.un w' (.int .u64 t') v1:=k1;have k2:TR I'.un w' (.int .u64 s') v2:=k2;cases k0;cases k1;cases k2;exact⟨⟨cells',elem',h6,by simpa using h7⟩,g0,g1,g2⟩
end
section
open Go.RowKit
attribute [local go_sem] Oper.semAt_some
theorem states_walk(n:Nat)(w:World)(N T s:Int):CallsIn Fence.wide n Try.prog 92 #[.agg #[.int .i64 N,.int .u64 T,.int .u64 s]] w λe w'=>
  e=.returned (.func (.func 109) #[] #[.pointer (some ⟨w.heap.size,0,none⟩)])/\w'=w.alloc (.cells #[.int .i64 N,.int .u64 T,.int .u64 s] 156):=by
 refine callsIn_of_wp Try.func92 rfl trivial ?_ rfl;simp only[Try.ntmps92,List.size_toArray,Ar,Bg,Nat.reduceAdd,Nat.reduceSub,Array.replicate_succ,Array.replicate_zero,List.push_toArray,List.append_toArray,BY,List.cons_append]
 gi_wp2
 go_ret
 exact⟨rfl,rfl⟩
theorem states_seq(n:Nat)(b:Nat)(N T:Int)(st:Nat->Int)(M:Nat)(hM:M<4611686018427387904)(hst:∀k,M93.m ⟨N,T,st k⟩=some (N,T,st (k+1))):
  SeqC n Try.prog 109 #[.pointer (some ⟨b,0,none⟩)] (λk=> #[.int .i64 k,.int .u64 (st k)]) b (.cells #[.int .i64 N,.int .u64 T,.int .u64 (st 0)] 156 (0,0)) M:=by
 intro l J Jx W hJ hY h0 ho;have hb0:=MB.of ho;show CallsIn Fence.wide n Try.prog 109 #[.func (.yield l) #[] #[],.pointer (some ⟨b,0,none⟩)] W _;refine callsIn_of_wp Try.func109 rfl trivial ?_ rfl;simp only[Try.ntmps109,List.size_toArray,Ar,Bg,Nat.reduceAdd,Nat.reduceSub,Array.replicate_succ,Array.replicate_zero,List.push_toArray,List.append_toArray,BY,List.cons_append]
 gi_wp2
 gi_loopw [3] (λp wr=>∃k:Nat,p=.int .i64 k/\k<=M/\MB wr b N T (st k)/\J k wr)
  (λp _=>M+1 - (intOf p).toNat)
 case atStart=>exact⟨0,rfl,B4 _,hb0,h0⟩
 case round=>
  obtain⟨k,rfl,hk,hm,hj⟩:=hrel;have hc:=hm.c2;obtain⟨fn,tmps,assign,body,hy,hR⟩:=hY k wr hj hk
  gi_wp2
  refine⟨λh=>(by cases h),hR.mono ?_⟩;rintro e W3 (⟨rfl,hkM,hJ3,hk3⟩|⟨rfl,hJx3⟩)
  ·have hm3:=hm.same hk3
   gi_wp2
   refine⟨trivial,λh=>(by cases h),(Az.2 (next_calls (hst k) hm3)).mono ?_⟩;rintro e W4 ⟨⟨v,rfl⟩,hm4,hf4⟩
   gi_wp2
   go_roundw
   case rel=>exact⟨k+1,by simp[IntKind.wrap,IntKind.signed,IntKind.bits,intOf]<;>omega,by omega,hm4,hJ _ _ _ hJ3 hf4⟩
   case measure=>simp[IntKind.wrap,IntKind.signed,IntKind.bits,intOf]<;>omega
  ·gi_wp2
   go_end0
   exact⟨⟨_,rfl⟩,hJx3⟩
end
section
open Go.RowKit
def noDef(ops:Array Oper):Bool:=ops.all λo=>match o.op with|.defer _=>false|_=>true
theorem noDef_spec{ops:Array Oper}(h:noDef ops=true){i:Nat}{o:Oper}(ho:ops[i]? =some o)(c:_):o.op≠.defer c:=λe=>by have h1:=Array.all_eq_true.1 h i (WF.1 ho).1;rw[(WF.1 ho).2,e]at h1;cases h1
theorem opIn_round{F:Fence}{n:Nat}{P:Program}{ops:Array Oper}{Q:Exit->Act->World->Prop}(l:Nat)(hd:noDef ops=true){i:Nat}{K:Act->World->Prop}{a:Act}{w:World}
  (h:wpOpIn F n P ops Q i K a w):wpOpIn (F.inRound l) n P ops Q i K a w:=by
 unfold wpOpIn at h⊢
 cases ho:ops[i]? with
 |none=>rw[ho]at h;exact h
 |some o=>
  rw[ho]at h;simp only at h⊢;split
  ·rename_i hw;rw[AB hw]at h;obtain⟨h1,h2⟩:=h;refine⟨h1,?_⟩;rw[Oper.semAt_plain _ _ _ (noDef_spec hd ho)]at h2⊢;exact h2
  ·rename_i hw;rw[AE hw]at h;exact h
theorem anyIn_round{F:Fence}{n:Nat}{P:Program}{md:Region.Mode}{ops:Array Oper}{Q:Exit->Act->World->Prop}(l:Nat)(hd:noDef ops=true):
  ∀(fuel:Nat) (listed:Array Bool) (a:Act) (w:World),wpAnyIn F n P md ops Q fuel listed a w->wpAnyIn (F.inRound l) n P md ops Q fuel listed a w
 |0,_,_,_,h=>h
 |fuel+1,listed,a,w,h=>⟨h.1,λi hi=>opIn_round l hd (wpOpIn_mono (λa w=>anyIn_round l hd fuel _ a w) (h.2 i hi))⟩
theorem region_round{F:Fence}{n:Nat}{P:Program}{id l:Nat}{ops:Array Oper}{Q:Exit->Act->World->Prop}{a:Act}{w:World}(hm:P.follows .mixedOrders=true)(hd:noDef ops=true)
  (h:wpAnyIn F n P .any ops Q ops.size (Array.replicate ops.size false) a w.drew):(Code.region id ops true).wpIn (F.inRound l) n P Q a w:=
 wpIn_region_any hm (anyIn_round l hd _ _ _ _ h)
end
section
open Go.RowKit
attribute [local go_sem] Oper.semAt_some
open Go.Abs in
theorem par_calls{x y:Int}(h:M110.m ⟨x⟩=some y)(W:World):Calls Try.prog 110 #[.int .u64 x] W λe W'=>e=.returned (.int .u64 y)/\Bel W.heap.size W W':=by
 have hf:=M110.known.ok ⟨x⟩ _ h;have hf:Qo Try.prog 110 [.c (.t (.int .u64 x))] [] λv τ=>v=.c (.t (.int .u64 y))/\τ=[]:=hf;rw[<-Az (n:=0)];refine BN (hf.2 Qf W _ (λ_ _ _ h=>by cases h) (WK W) ⟨rfl,λi hi=> ?_⟩) ?_
 ·have hi:i<1:=hi
  match i,hi with
  |0,_=>exact⟨_,rfl,TR.int _ _⟩
 ·rintro e w' ⟨v',A',I',u,rfl,⟨rfl,rfl⟩,hv,_,hs⟩;have hv:TR I'.un w' (.int .u64 y) u:=hv;cases hv;exact⟨rfl,hs.os,hs.out,hs.size,λb hb=>hs.frame b hb (Zu b)⟩
theorem wrI{x:Int}(h: -9223372036854775808<=x)(h':x<=9223372036854775807):IntKind.i64.wrap x=x:=by simp[IntKind.wrap,IntKind.signed,IntKind.bits];omega
def band(x y:Int):Int:=IntKind.u64.wrap (↑(BitVec.ofInt 64 x&&&BitVec.ofInt 64 y).toNat:Int)
structure Bx(B:Nat)(N T s c:Int)(pa:Option Addr)(pl pc:Nat)(gf:Nat)(lb:Array Value)(W:World):Prop where
 d:W.heap[B]? =some (.cells #[.int .i64 N,.int .u64 T,.slice pa pl pc,.int .i64 c] 102 (0,0))
 m:W.heap[B+1]? =some (.cells #[.int .i64 N,.int .u64 T,.int .u64 s] 156 (0,0))
 f:W.heap[B+2]? =some (.cells #[.func (.func gf) #[] lb] 163 (0,0))
theorem Bx.same{B:Nat}{N T s c:Int}{pa:Option Addr}{pl pc gf:Nat}{lb:Array Value}{W W':World}(h:Bx B N T s c pa pl pc gf lb W)(p:Nat->Prop)(hp:p B/\p (B+1)/\p (B+2))(hf:Fr p W W'):Bx B N T s c pa pl pc gf lb W':=
 ⟨(hf.keep _ (WF.1 h.d).1 hp.1).trans h.d,(hf.keep _ (WF.1 h.m).1 hp.2.1).trans h.m,(hf.keep _ (WF.1 h.f).1 hp.2.2).trans h.f⟩
theorem Bx.cells{B:Nat}{N T s c:Int}{pa:Option Addr}{pl pc gf:Nat}{lb:Array Value}{W:World}(h:Bx B N T s c pa pl pc gf lb W):
  W.cell? ⟨B,0,none⟩=some (.int .i64 N)/\W.cell? ⟨B,1,none⟩=some (.int .u64 T)/\W.cell? ⟨B,2,none⟩=some (.slice pa pl pc)/\W.cell? ⟨B,3,none⟩=some (.int .i64 c)/\W.cell? ⟨B+2,0,none⟩=some (.func (.func gf) #[] lb):=by
 refine⟨?_,?_,?_,?_,?_⟩<;>simp[World.cell?,h.d,h.f]
theorem each_walk(n:Nat)(w:World)(N T c:Int)(ph:List Int)(pa:Option Addr)(pc gf:Nat)(lb:Array Value)(st:Nat->Int)(hst:∀k,M93.m ⟨N,T,st k⟩=some (N,T,st (k+1)))
   (pr:Int->Int) (hpr:∀x y,M110.m ⟨band x y⟩=some (pr (band x y))) (hc:ph≠[]->c<=4096) (hpl:ph.length<=4096)
   (eg:∀args w,(callFunc gf args).run Try.prog w=.ok (.enter gf args) w)
   (G:Nat->Nat->World->Prop) (hG:∀t j W W',G t j W->Fr (· <w.heap.size) W W'->G t j W')
   (hph:∀t j W,G t j W->∀k (h:k<ph.length),∃b off,pa=some ⟨b,off,none⟩/\W.cell? ⟨b,off+k,none⟩=some (.int .u64 ph[k]))
   (hdoes:∀(t j:Nat) W (_:(t:Int)<c) (hj:j<ph.length),G t j W->Calls Try.prog gf (#[.int .i64 j,.int .i64 (c - 1 - t),.int .u64 (pr (band (st t) ph[j]))]++lb) W λe W'=>(∃v,e=.returned v)/\G t (j+1) W'/\Fr (w.heap.size<=·) W W')
   (hnext:∀t W,G t ph.length W->G (t+1) 0 W) (h0:G 0 0 w) (lim:Nat) (hlim:lim=if ph=[] then 0 else c.toNat):
   CallsIn Fence.wide n Try.prog 94 #[.agg #[.int .i64 N,.int .u64 T,.slice pa ph.length pc,.int .i64 c],.agg #[.int .i64 N,.int .u64 T,.int .u64 (st 0)],.func (.func gf) #[] lb] w λe W'=>
     (∃v,e=.returned v)/\G lim 0 W':=by
 refine callsIn_of_wp_marks Try.func94 rfl trivial ?_ rfl;simp only[Try.ntmps94,List.size_toArray,Ar,Bg,Nat.reduceAdd,Nat.reduceSub,Array.replicate_succ,Array.replicate_zero,List.push_toArray,List.append_toArray,BY,List.cons_append]
 gi_wp2
 refine⟨trivial,λh=>(by cases h),(states_walk _ _ N T (st 0)).mono ?_⟩;rintro e w' ⟨rfl,rfl⟩
 gi_wp2
 have hlim4:lim<=4096:=by
   rw[hlim];split
   · omega
   · rename_i h;have:=hc h;omega
 obtain⟨W0,hW0⟩:∃W0,((((w.alloc (.cells #[.int .i64 N,.int .u64 T,.slice pa ph.length pc,.int .i64 c] 102)).alloc (.cells #[.int .i64 N,.int .u64 T,.int .u64 (st 0)] 156)).alloc (.cells #[.func (.func gf) #[] lb] 163)).alloc (.cells #[.int .i64 N,.int .u64 T,.int .u64 (st 0)] 156))=W0:=⟨_,rfl⟩;have hsz:W0.heap.size=w.heap.size+4:=by rw[<-hW0];simp
 have hbx:Bx w.heap.size N T (st 0) c pa ph.length pc gf lb W0:=by
   rw[<-hW0];refine⟨?_,?_,?_⟩
   · rw[Below.heap_alloc _ _ _ (by simp;omega),Below.heap_alloc _ _ _ (by simp;omega),Below.heap_alloc _ _ _ (by simp)];exact AI _ _
   · rw[Below.heap_alloc _ _ _ (by simp),Below.heap_alloc _ _ _ (by simp)]
     have:=AI (w.alloc (.cells #[.int .i64 N,.int .u64 T,.slice pa ph.length pc,.int .i64 c] 102)) (.cells #[.int .i64 N,.int .u64 T,.int .u64 (st 0)] 156);rwa [AU]at this
   · rw[Below.heap_alloc _ _ _ (by simp)]
     have:=AI ((w.alloc (.cells #[.int .i64 N,.int .u64 T,.slice pa ph.length pc,.int .i64 c] 102)).alloc (.cells #[.int .i64 N,.int .u64 T,.int .u64 (st 0)] 156)) (.cells #[.func (.func gf) #[] lb] 163);rwa [AU,AU]at this
 have ho:W0.heap[w.heap.size+1+1+1]? =some (.cells #[.int .i64 N,.int .u64 T,.int .u64 (st 0)] 156 (0,0)):=by rw[<-hW0];have:=AI (((w.alloc (.cells #[.int .i64 N,.int .u64 T,.slice pa ph.length pc,.int .i64 c] 102)).alloc (.cells #[.int .i64 N,.int .u64 T,.int .u64 (st 0)] 156)).alloc (.cells #[.func (.func gf) #[] lb] 163)) (.cells #[.int .i64 N,.int .u64 T,.int .u64 (st 0)] 156);rwa [AU,AU,AU]at this
 have hF0:Fr (λ_=>True) w W0:=by rw[<-hW0];exact(((Fr.alloc _ _ _).trans (Fr.alloc _ _ _)).trans (Fr.alloc _ _ _)).trans (Fr.alloc _ _ _)
 rw[hW0];clear hW0;refine rng_law (gf:=109) (lb:= #[.pointer (some ⟨w.heap.size+1+1+1,0,none⟩)]) rfl (enters_of Try.func109 (by kernel_rfl) rfl) (enc:=λk=> #[.int .i64 k,.int .u64 (st k)]) (bm:=w.heap.size+1+1+1) (by omega) ho
   (states_seq (n - 1) (w.heap.size+1+1+1) N T st lim (by omega) hst) (λ_=>rfl) 0
   (λk W=>k<=lim/\G k 0 W/\Bx w.heap.size N T (st 0) c pa ph.length pc gf lb W) (λW=>G lim 0 W)
   (λk W W' h hf=>⟨h.1,hG _ _ _ _ h.2.1 (hf.imp λb _ hb=>by omega),h.2.2.same _ (by omega) hf⟩)
   (λW W' h hf=>hG _ _ _ _ h (hf.imp λb _ hb=>by omega))
   ⟨B4 _,hG _ _ _ _ h0 (hF0.imp λ_ _ _=>trivial),hbx⟩
   (λk=>{ tmps:= #[.agg #[.int .i64 N,.int .u64 T,.slice pa ph.length pc,.int .i64 c],.agg #[.int .i64 N,.int .u64 T,.int .u64 (st 0)],.func (.func gf) #[] lb,.pointer (some ⟨w.heap.size,0,none⟩),.pointer (some ⟨w.heap.size+1,0,none⟩),.pointer (some ⟨w.heap.size+1+1,0,none⟩),
     .int .i64 k,.int .u64 (st k),undef,undef,.agg #[.int .i64 N,.int .u64 T,.int .u64 (st 0)],.func (.func 109) #[] #[.pointer (some ⟨w.heap.size+1+1+1,0,none⟩)],.int .i64 k,.int .u64 (st k),
     undef,undef,undef,undef,undef,undef,undef,undef,undef,undef,undef,undef,undef,undef,undef,undef,undef,undef,undef,undef,undef,undef,undef,undef,undef,undef,undef,undef,undef,undef,undef],defers:=[] }) ?assign ?body ?stop
 case assign=>
   intro l k W K hK
   gi_wp2
   exact hK
 case body=>
   rintro l k W ⟨hk,hg,hb⟩ hkl hsW;obtain⟨c0,c1,c2,c3,c4⟩:=hb.cells;have hex:(c<=(k:Int)\/ph.length=0)->k=lim:=λh=>by
     rw[hlim]at hkl⊢;by_cases hp:ph=[]
     · rw[AB hp]at hkl⊢;omega
     · rw[AE hp]at hkl⊢
       have:ph.length≠0:=λe=>hp (AN.1 e);omega
   have hout:∀a,(c<=(k:Int)\/ph.length=0)->rngPost 0 W0.heap.size (w.heap.size+1+1+1) (λk W=>k<=lim/\G k 0 W/\Bx w.heap.size N T (st 0) c pa ph.length pc gf lb W) (λW=>G lim 0 W) lim k W (Exit.exit 0) a W:=
     λa h=>⟨rfl,hex h▸hg,Fr.refl _ _⟩
   have HO:=hout
   replace HO:Hid (∀a,(c<=(k:Int)\/ph.length=0)->rngPost 0 W0.heap.size (w.heap.size+1+1+1) (λk W=>k<=lim/\G k 0 W/\Bx w.heap.size N T (st 0) c pa ph.length pc gf lb W) (λW=>G lim 0 W) lim k W (Exit.exit 0) a W):=hout
   clear hout;have HC:Hid (ph≠[]->c<=4096):=hc;have HL:Hid (lim=if ph=[] then 0 else c.toNat):=hlim;clear hlim hex hc
   gi_wp2
   · exact HO.out _ ((‹_\/(((ph.length:Nat):Int)==0)=true›).imp id λh=>by have:=eq_of_beq h;omega)
   · have hkc:(k:Int)<c:=(‹_/\(((ph.length:Nat):Int)==0)=false›).1
     have hpn:ph≠[]:=λe=>(by have:=(‹_/\(((ph.length:Nat):Int)==0)=false›).2;rw[e]at this;cases this);have hc4:=HC.out hpn;have hp2:=(‹_/\(((ph.length:Nat):Int)==0)=false›).2;simp only[hp2,Bool.or_false]
     gi_loopw [27] (λp wr=>∃j:Nat,p=.int .i64 j/\j<=ph.length/\G k j wr/\Fr (λb=>w.heap.size<=b) W wr) (λp _=>ph.length - (intOf p).toNat)
     case atStart=>exact⟨0,rfl,B4 _,hg,Fr.refl _ _⟩
     case round=>
       obtain⟨j,rfl,hj,hgj,hf⟩:=hrel;obtain⟨c0,c1,c2,c3,c4⟩:=(hb.same _ ⟨by simp,by simp,by simp⟩ hf).cells;by_cases hjl:j<ph.length
       · obtain⟨b,off,rfl,hcell⟩:=hph k j wr hgj j hjl
         gi_wp2
         have e1:IntKind.i64.wrap (c - 1)=c - 1:=wrI (by omega) (by omega);have e2:IntKind.i64.wrap (c - 1 - k)=c - 1 - k:=wrI (by omega) (by omega);have hcall:∀W4,Bel wr.heap.size wr.drew W4->Fr (λb=>w.heap.size<=b) wr W4/\G k j W4/\W4.cell? ⟨w.heap.size,3,none⟩=some (.int .i64 c)/\W4.cell? ⟨w.heap.size+2,0,none⟩=some (.func (.func gf) #[] lb):=λW4 hb4=>(by have hsz':=hf.size;have h4:Fr (λ_=>True) wr W4:=⟨hb4.os,hb4.out,hb4.size,λb hb _=>hb4.block b hb⟩;exact⟨h4.imp λ_ _ _=>trivial,hG _ _ _ _ hgj (h4.imp λ_ _ _=>trivial),(hb4.cell (p:=⟨w.heap.size,3,none⟩) (by simp;omega)).trans c3,(hb4.cell (p:=⟨w.heap.size+2,0,none⟩) (by simp;omega)).trans c4⟩);refine region_round (by kernel_rfl) (by kernel_rfl) ?_;refine BT (i:=1) (v:=.int .i64 j) rfl rfl (by kernel_rfl) (by kernel_rfl) (by kernel_rfl) (λ_ _ _ h=>h) ⟨Or.inl ⟨by rfl,λw=>by go_simp<;>first|rfl|assumption⟩,λ_=>rfl⟩ ?_;refine BT (i:=2) (v:=.pointer (some ⟨w.heap.size,3,none⟩)) rfl rfl (by kernel_rfl) (by kernel_rfl) (by kernel_rfl) (λ_ _ _ h=>h) ⟨Or.inl ⟨by rfl,λw=>by go_simp<;>first|rfl|assumption⟩,λ_=>rfl⟩ ?_;refine BT (i:=5) (v:=.int .i64 k) rfl rfl (by kernel_rfl) (by kernel_rfl) (by kernel_rfl) (λ_ _ _ h=>h) ⟨Or.inl ⟨by rfl,λw=>by go_simp<;>first|rfl|assumption⟩,λ_=>rfl⟩ ?_;refine BT (i:=7) (v:=.int .u64 (st k)) rfl rfl (by kernel_rfl) (by kernel_rfl) (by kernel_rfl) (λ_ _ _ h=>h) ⟨Or.inl ⟨by rfl,λw=>by go_simp<;>first|rfl|assumption⟩,λ_=>rfl⟩ ?_;refine BT (i:=8) (v:=.int .u64 ph[j]) rfl rfl (by kernel_rfl) (by kernel_rfl) (by kernel_rfl) (λ_ _ _ h=>h) ⟨Or.inl ⟨by rfl,λw=>by go_simp<;>first|rfl|assumption⟩,λ_=>rfl⟩ ?_;refine BT (i:=9) (v:=.int .u64 (band (st k) ph[j])) rfl rfl (by kernel_rfl) (by kernel_rfl) (by kernel_rfl) (λ_ _ _ h=>h) ⟨Or.inl ⟨by rfl,λw=>by go_simp<;>first|rfl|assumption⟩,λ_=>rfl⟩ ?_;refine BP (rs:=[0,3,10]) (by kernel_rfl) (by simp) ((Av rfl (λK hK=> ?_) (Av rfl (λK hK=> ?_) (Av rfl (λK hK=> ?_) BM))))
         · go_simp
           refine hK _ _ ?_;clear hK K;refine BP (rs:=[3,10]) (by kernel_rfl) (by simp) ((Av rfl (λK hK=> ?_) (Av rfl (λK hK=> ?_) BM)))
           · go_simp
             refine hK _ _ ?_;clear hK K;refine BT (i:=4) (v:=.int .i64 (c - 1)) rfl rfl (by kernel_rfl) (by kernel_rfl) (by kernel_rfl) (λ_ _ _ h=>h) ⟨Or.inl ⟨by rfl,λw=>by go_simp<;>first|rfl|assumption⟩,λ_=>rfl⟩ ?_;refine BT (i:=6) (v:=.int .i64 (c - 1 - k)) rfl rfl (by kernel_rfl) (by kernel_rfl) (by kernel_rfl) (λ_ _ _ h=>h) ⟨Or.inl ⟨by rfl,λw=>by go_simp<;>first|rfl|assumption⟩,λ_=>rfl⟩ ?_;refine BP (rs:=[10]) (by kernel_rfl) (by simp) ((Av rfl (λK hK=> ?_) BM))
             · go_simp
               refine⟨trivial,λh=>(by cases h),(Az.2 (par_calls (hpr _ _) _)).mono ?_⟩;rintro e W4 ⟨rfl,hb4⟩;obtain⟨hf4,hg4,d3,d4⟩:=hcall W4 hb4;refine hK _ _ ?_;clear hK K;refine BP (rs:=[11]) (by kernel_rfl) (by simp) (Av rfl (λK hK=> ?_) BM)
               go_simp
               refine⟨trivial,λh=>(by cases h),(Az.2 (hdoes k j W4 hkc hjl hg4)).mono ?_⟩;rintro e W5 ⟨⟨v,rfl⟩,hg5,hf5⟩;refine hK _ _ ?_;clear hK K;refine wpAnyIn_done (by kernel_rfl) ?_ _
               go_simp
               gi_wp2
               go_roundw
               case rel=>exact⟨j+1,by simp,by omega,hg5,(hf.trans hf4).trans hf5⟩
               case measure=>simp[intOf];omega
           · go_simp
             refine⟨trivial,λh=>(by cases h),(Az.2 (par_calls (hpr _ _) _)).mono ?_⟩;rintro e W4 ⟨rfl,hb4⟩;obtain⟨hf4,hg4,d3,d4⟩:=hcall W4 hb4;refine hK _ _ ?_;clear hK K;refine BP (rs:=[3]) (by kernel_rfl) (by simp) ((Av rfl (λK hK=> ?_) BM))
             · go_simp
               refine hK _ _ ?_;clear hK K;refine BT (i:=4) (v:=.int .i64 (c - 1)) rfl rfl (by kernel_rfl) (by kernel_rfl) (by kernel_rfl) (λ_ _ _ h=>h) ⟨Or.inl ⟨by rfl,λw=>by go_simp<;>first|rfl|assumption⟩,λ_=>rfl⟩ ?_;refine BT (i:=6) (v:=.int .i64 (c - 1 - k)) rfl rfl (by kernel_rfl) (by kernel_rfl) (by kernel_rfl) (λ_ _ _ h=>h) ⟨Or.inl ⟨by rfl,λw=>by go_simp<;>first|rfl|assumption⟩,λ_=>rfl⟩ ?_;refine BP (rs:=[11]) (by kernel_rfl) (by simp) (Av rfl (λK hK=> ?_) BM)
               go_simp
               refine⟨trivial,λh=>(by cases h),(Az.2 (hdoes k j W4 hkc hjl hg4)).mono ?_⟩;rintro e W5 ⟨⟨v,rfl⟩,hg5,hf5⟩;refine hK _ _ ?_;clear hK K;refine wpAnyIn_done (by kernel_rfl) ?_ _
               go_simp
               gi_wp2
               go_roundw
               case rel=>exact⟨j+1,by simp,by omega,hg5,(hf.trans hf4).trans hf5⟩
               case measure=>simp[intOf];omega
         · go_simp
           refine hK _ _ ?_;clear hK K;refine BT (i:=4) (v:=.int .i64 (c - 1)) rfl rfl (by kernel_rfl) (by kernel_rfl) (by kernel_rfl) (λ_ _ _ h=>h) ⟨Or.inl ⟨by rfl,λw=>by go_simp<;>first|rfl|assumption⟩,λ_=>rfl⟩ ?_;refine BT (i:=6) (v:=.int .i64 (c - 1 - k)) rfl rfl (by kernel_rfl) (by kernel_rfl) (by kernel_rfl) (λ_ _ _ h=>h) ⟨Or.inl ⟨by rfl,λw=>by go_simp<;>first|rfl|assumption⟩,λ_=>rfl⟩ ?_;refine BP (rs:=[0,10]) (by kernel_rfl) (by simp) ((Av rfl (λK hK=> ?_) (Av rfl (λK hK=> ?_) BM)))
           · go_simp
             refine hK _ _ ?_;clear hK K;refine BP (rs:=[10]) (by kernel_rfl) (by simp) ((Av rfl (λK hK=> ?_) BM))
             · go_simp
               refine⟨trivial,λh=>(by cases h),(Az.2 (par_calls (hpr _ _) _)).mono ?_⟩;rintro e W4 ⟨rfl,hb4⟩;obtain⟨hf4,hg4,d3,d4⟩:=hcall W4 hb4;refine hK _ _ ?_;clear hK K;refine BP (rs:=[11]) (by kernel_rfl) (by simp) (Av rfl (λK hK=> ?_) BM)
               go_simp
               refine⟨trivial,λh=>(by cases h),(Az.2 (hdoes k j W4 hkc hjl hg4)).mono ?_⟩;rintro e W5 ⟨⟨v,rfl⟩,hg5,hf5⟩;refine hK _ _ ?_;clear hK K;refine wpAnyIn_done (by kernel_rfl) ?_ _
               go_simp
               gi_wp2
               go_roundw
               case rel=>exact⟨j+1,by simp,by omega,hg5,(hf.trans hf4).trans hf5⟩
               case measure=>simp[intOf];omega
           · go_simp
             refine⟨trivial,λh=>(by cases h),(Az.2 (par_calls (hpr _ _) _)).mono ?_⟩;rintro e W4 ⟨rfl,hb4⟩;obtain⟨hf4,hg4,d3,d4⟩:=hcall W4 hb4;refine hK _ _ ?_;clear hK K;refine BP (rs:=[0]) (by kernel_rfl) (by simp) ((Av rfl (λK hK=> ?_) BM))
             · go_simp
               refine hK _ _ ?_;clear hK K;refine BP (rs:=[11]) (by kernel_rfl) (by simp) (Av rfl (λK hK=> ?_) BM)
               go_simp
               refine⟨trivial,λh=>(by cases h),(Az.2 (hdoes k j W4 hkc hjl hg4)).mono ?_⟩;rintro e W5 ⟨⟨v,rfl⟩,hg5,hf5⟩;refine hK _ _ ?_;clear hK K;refine wpAnyIn_done (by kernel_rfl) ?_ _
               go_simp
               gi_wp2
               go_roundw
               case rel=>exact⟨j+1,by simp,by omega,hg5,(hf.trans hf4).trans hf5⟩
               case measure=>simp[intOf];omega
         · go_simp
           refine⟨trivial,λh=>(by cases h),(Az.2 (par_calls (hpr _ _) _)).mono ?_⟩;rintro e W4 ⟨rfl,hb4⟩;obtain⟨hf4,hg4,d3,d4⟩:=hcall W4 hb4;refine hK _ _ ?_;clear hK K;refine BP (rs:=[0,3]) (by kernel_rfl) (by simp) ((Av rfl (λK hK=> ?_) (Av rfl (λK hK=> ?_) BM)))
           · go_simp
             refine hK _ _ ?_;clear hK K;refine BP (rs:=[3]) (by kernel_rfl) (by simp) ((Av rfl (λK hK=> ?_) BM))
             · go_simp
               refine hK _ _ ?_;clear hK K;refine BT (i:=4) (v:=.int .i64 (c - 1)) rfl rfl (by kernel_rfl) (by kernel_rfl) (by kernel_rfl) (λ_ _ _ h=>h) ⟨Or.inl ⟨by rfl,λw=>by go_simp<;>first|rfl|assumption⟩,λ_=>rfl⟩ ?_;refine BT (i:=6) (v:=.int .i64 (c - 1 - k)) rfl rfl (by kernel_rfl) (by kernel_rfl) (by kernel_rfl) (λ_ _ _ h=>h) ⟨Or.inl ⟨by rfl,λw=>by go_simp<;>first|rfl|assumption⟩,λ_=>rfl⟩ ?_;refine BP (rs:=[11]) (by kernel_rfl) (by simp) (Av rfl (λK hK=> ?_) BM)
               go_simp
               refine⟨trivial,λh=>(by cases h),(Az.2 (hdoes k j W4 hkc hjl hg4)).mono ?_⟩;rintro e W5 ⟨⟨v,rfl⟩,hg5,hf5⟩;refine hK _ _ ?_;clear hK K;refine wpAnyIn_done (by kernel_rfl) ?_ _
               go_simp
               gi_wp2
               go_roundw
               case rel=>exact⟨j+1,by simp,by omega,hg5,(hf.trans hf4).trans hf5⟩
               case measure=>simp[intOf];omega
           · go_simp
             refine hK _ _ ?_;clear hK K;refine BT (i:=4) (v:=.int .i64 (c - 1)) rfl rfl (by kernel_rfl) (by kernel_rfl) (by kernel_rfl) (λ_ _ _ h=>h) ⟨Or.inl ⟨by rfl,λw=>by go_simp<;>first|rfl|assumption⟩,λ_=>rfl⟩ ?_;refine BT (i:=6) (v:=.int .i64 (c - 1 - k)) rfl rfl (by kernel_rfl) (by kernel_rfl) (by kernel_rfl) (λ_ _ _ h=>h) ⟨Or.inl ⟨by rfl,λw=>by go_simp<;>first|rfl|assumption⟩,λ_=>rfl⟩ ?_;refine BP (rs:=[0]) (by kernel_rfl) (by simp) ((Av rfl (λK hK=> ?_) BM))
             · go_simp
               refine hK _ _ ?_;clear hK K;refine BP (rs:=[11]) (by kernel_rfl) (by simp) (Av rfl (λK hK=> ?_) BM)
               go_simp
               refine⟨trivial,λh=>(by cases h),(Az.2 (hdoes k j W4 hkc hjl hg4)).mono ?_⟩;rintro e W5 ⟨⟨v,rfl⟩,hg5,hf5⟩;refine hK _ _ ?_;clear hK K;refine wpAnyIn_done (by kernel_rfl) ?_ _
               go_simp
               gi_wp2
               go_roundw
               case rel=>exact⟨j+1,by simp,by omega,hg5,(hf.trans hf4).trans hf5⟩
               case measure=>simp[intOf];omega
       · obtain rfl:j=ph.length:=by omega
         gi_wp2
         have hkl:k<lim:=(by have:=HL.out;rw[AE hpn]at this;omega);exact⟨hkl,⟨hkl,hnext _ _ hgj,hb.same _ ⟨by simp,by simp,by simp⟩ hf⟩,hf.imp λb _ h=>by omega⟩
   · rw[<-hsz];exact HO.out _ (.inl (by assumption))
 case stop=>
   intro D W hD hg hK
   gi_wp2
   refine⟨by simp,.inl ⟨_,_,rfl,run_takeDeferred hK,?_⟩⟩;exact⟨_,results_none rfl _ _ _,⟨_,rfl⟩,hG _ _ _ _ hg (Fr.putObj _ _ _ (by omega))⟩
end
section
open Go.RowKit
structure OutAt(W:World)(bo br m c:Nat)(rb:Nat->Nat)(val:Nat->Nat->Int):Prop where
 box:W.heap[bo]? =some (.cells #[.slice (some ⟨br,0,none⟩) m m] 104 (0,0))
 top:∃cur,W.heap[br]? =some (.cells cur 110 (0,0))/\cur.size=m/\∀j,j<m->cur[j]? =some (.slice (some ⟨rb j,0,none⟩) c c)
 row:∀j,j<m->∃cur,W.heap[rb j]? =some (.cells cur 111 (0,0))/\cur.size=c/\∀i,i<c->cur[i]? =some (.int .u8 (val j i))
 apart:∀j j',j<m->j'<m->rb j=rb j'->j=j'
 away:∀j,j<m->rb j≠br/\rb j≠bo
theorem OutAt.same{W W':World}{bo br m c:Nat}{rb:Nat->Nat}{val:Nat->Nat->Int}(h:OutAt W bo br m c rb val){p:Nat->Prop}(hf:Fr p W W')(hp:p bo/\p br/\∀j,j<m->p (rb j)):OutAt W' bo br m c rb val:=by obtain⟨h1,⟨cur,h2,h3⟩,h4,h5,h6⟩:=h;refine⟨(hf.keep _ (WF.1 h1).1 hp.1).trans h1,⟨cur,(hf.keep _ (WF.1 h2).1 hp.2.1).trans h2,h3⟩,λj hj=> ?_,h5,h6⟩;obtain⟨cur,g1,g2⟩:=h4 j hj;exact⟨cur,(hf.keep _ (WF.1 g1).1 (hp.2.2 j hj)).trans g1,g2⟩
theorem heap_setCell_same{W:World}{b:Nat}{cur:Array Value}{e:TypeId}(h:W.heap[b]? =some (.cells cur e (0,0)))(o:Nat)(v:Value):(W.setCell ⟨b,o,none⟩ v).heap[b]? =some (.cells (cur.setIfInBounds o v) e (0,0)):=by obtain⟨hlt,hk⟩:=WF.1 h;show(W.heap.modify b _)[b]? =_;rw[B3 (by rw[Array.size_modify];exact hlt),Array.getElem_modify_self,hk];rfl
theorem OutAt.set{W:World}{bo br m c:Nat}{rb:Nat->Nat}{val:Nat->Nat->Int}(h:OutAt W bo br m c rb val){j i:Nat}(hj:j<m)(hi:i<c)(x:Int):
  OutAt (W.setCell ⟨rb j,i,none⟩ (.int .u8 x)) bo br m c rb (λj' i'=>if j'=j/\i'=i then x else val j' i'):=by
 obtain⟨h1,⟨cur,h2,h3⟩,h4,h5,h6⟩:=h;refine⟨(Below.heap_setCell W _ _ _ (BU (h6 j hj).2)).trans h1,⟨cur,(Below.heap_setCell W _ _ _ (BU (h6 j hj).1)).trans h2,h3⟩,λj' hj'=> ?_,h5,h6⟩;obtain⟨cur,g1,g2,g3⟩:=h4 j' hj';by_cases e:j'=j
 ·subst e;refine⟨cur.setIfInBounds i (.int .u8 x),heap_setCell_same g1 _ _,by simpa using g2,λi' hi'=> ?_⟩;by_cases ei:i'=i
  ·subst ei;simp[g2,hi']
  ·rw[CF (BU ei),g3 i' hi'];simp[ei]
 ·refine⟨cur,(Below.heap_setCell W _ _ _ (λhe=>e (h5 _ _ hj' hj he))).trans g1,g2,λi' hi'=> ?_⟩;rw[g3 i' hi'];simp[e]
theorem OutAt.cells{W:World}{bo br m c:Nat}{rb:Nat->Nat}{val:Nat->Nat->Int}(h:OutAt W bo br m c rb val){j i:Nat}(hj:j<m)(hi:i<c):
  W.cell? ⟨bo,0,none⟩=some (.slice (some ⟨br,0,none⟩) m m)/\W.cell? ⟨br,j,none⟩=some (.slice (some ⟨rb j,0,none⟩) c c)/\W.cell? ⟨rb j,i,none⟩=some (.int .u8 (val j i))/\W.frozen? ⟨rb j,i,none⟩=false:=by
 obtain⟨cur,h2,_,h3⟩:=h.top;obtain⟨cur',g1,_,g3⟩:=h.row j hj;refine⟨by simp[World.cell?,h.box],by simp[World.cell?,h2,h3 j hj],by simp[World.cell?,g1,g3 i hi],by simp[World.frozen?,g1]⟩
theorem put_walk(W:World)(bo br m c:Nat)(rb:Nat->Nat)(val:Nat->Nat->Int)(h:OutAt W bo br m c rb val)(j i:Nat)(hj:j<m)(hi:i<c)(x:Int):
  Calls Try.prog 95 #[.int .i64 j,.int .i64 i,.int .u64 x,.pointer (some ⟨bo,0,none⟩)] W λe W'=>(∃v,e=.returned v)/\W'=W.setCell ⟨rb j,i,none⟩ (.int .u8 (IntKind.u8.wrap x)):=by
 obtain⟨c1,c2,c3,c4⟩:=h.cells hj hi;generalize rb j=r at c2 c3 c4⊢;clear h
 go_enter Try.func95,Try.ntmps95
 go_wp2
 go_end0
 exact⟨⟨_,rfl⟩,rfl⟩
end
section
open Go.RowKit
theorem info110:(Try.prog.info? 110).map (λi=>(i.zero,i.size,i.bytes))=some (some (.slice none 0 0),1,24):=by kernel_rfl
theorem info111:(Try.prog.info? 111).map (λi=>(i.zero,i.size,i.bytes))=some (some (.int .u8 0),1,1):=by kernel_rfl
theorem made{W W':World}{base e:Nat}{z:Value}{n:Nat}(hz:z.cells= #[z])(ho:W'.ownsRow base e 1 (.slice (some ⟨W.heap.size,0,none⟩) n n) n (madeCells z.cells (n*1)).toList)(hg:W.grownBy W' none):
  Fr (λ_=>True) W W'/\∃cur,W'.heap[W.heap.size]? =some (.cells cur e (0,0))/\cur.size=n/\∀j,j<n->cur[j]? =some z:=by
 refine⟨⟨hg.os,hg.output,hg.size,λb hb _=>hg.block b hb (by simp)⟩,?_⟩;rcases ho.2 with ⟨h,_⟩|⟨g,cap,cur,h1,_,h2,_,_,h3,h4⟩
 ·cases h
 ·cases h1;refine⟨cur,h2,by simpa using h3,λj hj=> ?_⟩;have h5:cur.toList=(madeCells z.cells (n*1)).toList:=(by rw[<-h4,AS (by simp[h3])]);have h6:cur=madeCells z.cells (n*1):=Array.toList_inj.1 h5;rw[h6,hz];simp[madeCells,hj,Nat.mod_one]
def ElsU(W:World)(B:Nat)(pa:Option Addr)(xs:List Int):Prop:=∀k (h:k<xs.length),∃b off,pa=some ⟨b,off,none⟩/\b<B/\b<W.heap.size/\W.cell? ⟨b,off+k,none⟩=some (.int .u64 xs[k])
theorem ElsU.fr{W W':World}{B:Nat}{pa:Option Addr}{xs:List Int}(h:ElsU W B pa xs)(hf:Fr (· <B) W W'):ElsU W' B pa xs:=λk hk=>by obtain⟨b,off,h1,h2,h3,h4⟩:=h k hk;exact⟨b,off,h1,h2,AL h3 hf.size,(cell_same (hf.keep b h3 h2) _).trans h4⟩
structure Part(W:World)(bo br m c j:Nat)(rb:Nat->Nat):Prop where
 box:W.heap[bo]? =some (.cells #[.slice (some ⟨br,0,none⟩) m m] 104 (0,0))
 top:∃cur,W.heap[br]? =some (.cells cur 110 (0,0))/\cur.size=m/\∀k,k<j->cur[k]? =some (.slice (some ⟨rb k,0,none⟩) c c)
 row:∀k,k<j->∃cur,W.heap[rb k]? =some (.cells cur 111 (0,0))/\cur.size=c/\∀i,i<c->cur[i]? =some (.int .u8 0)
 apart:∀k k',k<j->k'<j->rb k=rb k'->k=k'
 low:br<bo
 high:∀k,k<j->bo<rb k
theorem Part.next{W W1:World}{bo br m c j:Nat}{rb:Nat->Nat}(h:Part W bo br m c j rb)(hj:j<m)(hf:Fr (λ_=>True) W W1){cur:Array Value}(hc:W1.heap[W.heap.size]? =some (.cells cur 111 (0,0)))(hs:cur.size=c)(hz:∀i,i<c->cur[i]? =some (.int .u8 0)):
  Part (W1.setCell ⟨br,j,none⟩ (.slice (some ⟨W.heap.size,0,none⟩) c c)) bo br m c (j+1) (λk=>if k=j then W.heap.size else rb k):=by
 obtain⟨h1,⟨ct,h2,h3,h3'⟩,h4,h5,h6,h7⟩:=h;have l1:=(WF.1 h1).1;have l2:=(WF.1 h2).1;have g2:W1.heap[br]? =some (.cells ct 110 (0,0)):=(hf.keep br l2 trivial).trans h2;have lr:∀k,k<j->rb k<W.heap.size:=λk hk=>by obtain⟨_,g,_⟩:=h4 k hk;exact(WF.1 g).1
 refine⟨(Below.heap_setCell W1 _ _ _ (show bo≠br by omega)).trans ((hf.keep bo l1 trivial).trans h1),⟨ct.setIfInBounds j _,heap_setCell_same g2 _ _,by simpa using h3,λk hk=> ?_⟩,λk hk=> ?_,λk k' hk hk' he=> ?_,h6,λk hk=> ?_⟩
 ·by_cases e:k=j
  ·subst e;simp[h3,hj]
  ·rw[CF (BU e),h3' k (by omega)];simp[e]
 ·by_cases e:k=j
  ·subst e;refine⟨cur,?_,hs,hz⟩;rw[AB rfl];exact(Below.heap_setCell W1 _ _ _ (show W.heap.size≠br by omega)).trans hc
  ·obtain⟨cu,g,gs⟩:=h4 k (by omega);have:=h7 k (by omega);refine⟨cu,?_,gs⟩;rw[AE e];exact(Below.heap_setCell W1 _ _ _ (show rb k≠br by omega)).trans ((hf.keep _ (lr k (by omega)) trivial).trans g)
 ·by_cases e:k=j
  ·by_cases e':k'=j
   ·omega
   ·simp only[AB e,AE e']at he;have:=lr k' (by omega);omega
  ·by_cases e':k'=j
   ·simp only[AB e',AE e]at he;have:=lr k (by omega);omega
   ·simp only[AE e,AE e']at he;exact h5 _ _ (by omega) (by omega) he
 ·by_cases e:k=j
  ·simp only[AB e];omega
  ·simp only[AE e];exact h7 k (by omega)
theorem Part.out{W:World}{bo br m c:Nat}{rb:Nat->Nat}(h:Part W bo br m c m rb):OutAt W bo br m c rb (λ_ _=>0):=
 ⟨h.box,h.top,h.row,h.apart,λj hj=>by have:=h.high j hj;have:=h.low;omega⟩
end
section
open Go.RowKit
theorem OutAt.congr{W:World}{bo br m c:Nat}{rb:Nat->Nat}{val val':Nat->Nat->Int}(h:OutAt W bo br m c rb val)(he:∀j i,j<m->i<c->val j i=val' j i):OutAt W bo br m c rb val':=
 ⟨h.box,h.top,λj hj=>by obtain⟨cur,g1,g2,g3⟩:=h.row j hj;exact⟨cur,g1,g2,λi hi=>by rw[<-he j i hj hi];exact g3 i hi⟩,h.apart,h.away⟩
def cellV(st:Nat->Int)(pr:Int->Int)(ph:List Int)(c j i:Nat):Int:=IntKind.u8.wrap (pr (band (st (c - 1 - i)) (ph[j]?.getD 0)))
def partV(st:Nat->Int)(pr:Int->Int)(ph:List Int)(c t k j i:Nat):Int:=if c - 1 - i<t\/(c - 1 - i=t/\j<k) then cellV st pr ph c j i else 0
theorem expand_each(wr:World)(N T c:Int)(ph:List Int)(pa:Option Addr)(pc B bo br:Nat)(rb:Nat->Nat)(st:Nat->Int)(hst:∀k,M93.m ⟨N,T,st k⟩=some (N,T,st (k+1)))(pr:Int->Int)(hpr:∀x y,M110.m ⟨band x y⟩=some (pr (band x y)))
  (hc:ph≠[]->0<=c/\c<=4096) (hpl:ph.length<=4096) (hP:Part wr bo br ph.length c.toNat ph.length rb) (hels:ElsU wr B pa ph) (hB:B<=br):
  Calls Try.prog 94 #[.agg #[.int .i64 N,.int .u64 T,.slice pa ph.length pc,.int .i64 c],.agg #[.int .i64 N,.int .u64 T,.int .u64 (st 0)],.func (.func 95) #[] #[.pointer (some ⟨bo,0,none⟩)]] wr λe W'=>
   (∃v,e=.returned v)/\OutAt W' bo br ph.length c.toNat rb (cellV st pr ph c.toNat)/\Fr (λb=>b<=bo/\b≠br) wr W':=by
 have hlo:=hP.low;have hhi:=hP.high;have hbo:=(WF.1 hP.box).1;have hrb:∀j,j<ph.length->rb j<wr.heap.size:=λj hj=>by obtain⟨_,g,_⟩:=hP.row j hj;exact(WF.1 g).1
 have key:=each_walk 0 wr N T c ph pa pc 95 #[.pointer (some ⟨bo,0,none⟩)] st hst pr hpr (λh=>(hc h).2) hpl (enters_of Try.func95 (by kernel_rfl) rfl)
  (λt k W=>OutAt W bo br ph.length c.toNat rb (partV st pr ph c.toNat t k)/\ElsU W B pa ph/\Fr (λb=>b<=bo/\b≠br) wr W)
  (λt k W W' h hf=>⟨h.1.same hf ⟨hbo,by omega,hrb⟩,h.2.1.fr (hf.imp λb _ hb=>by omega),h.2.2.trans (hf.imp λb _ hb=>by omega)⟩)
  (λt k W h i hi=>by obtain⟨b,off,h1,_,_,h2⟩:=h.2.1 i hi;exact⟨b,off,h1,h2⟩)
  (λt k W htc hk h=>by
   obtain⟨cn,rfl⟩:=AH (show 0<=c by omega);rw[A8]at h;have hi:cn - 1 - t<cn:=(by omega);have he:(cn:Int) - 1 - t=((cn - 1 - t:Nat):Int):=(by omega);rw[he];refine(put_walk W bo br ph.length cn rb _ h.1 k (cn - 1 - t) hk hi (pr (band (st t) ph[k]))).mono ?_;rintro e W' ⟨hv,rfl⟩;have hk':=hhi k hk;refine⟨hv,⟨(h.1.set hk hi _).congr λj i hj hi'=> ?_,h.2.1.fr (Fr.setCell _ _ _ (by simp;omega)),h.2.2.trans (Fr.setCell _ _ _ (by simp;omega))⟩,Fr.setCell _ _ _ (by have:=hrb k hk;simp;omega)⟩;rw[A8];unfold partV;by_cases e:j=k/\i=cn - 1 - t
   ·obtain⟨rfl,rfl⟩:=e;have e2:cn - 1 - (cn - 1 - t)=t:=(by omega);rw[AB ⟨rfl,rfl⟩,AB (.inr ⟨e2,by omega⟩)];unfold cellV;rw[e2,A3 hk];rfl
   ·rw[AE e];have:(cn - 1 - i<t\/(cn - 1 - i=t/\j<k))↔(cn - 1 - i<t\/(cn - 1 - i=t/\j<k+1)):=(by omega);simp only[this])
  (λt W h=>⟨h.1.congr λj i hj hi=>by
   unfold partV;have:(c.toNat - 1 - i<t\/(c.toNat - 1 - i=t/\j<ph.length))↔(c.toNat - 1 - i<t+1\/(c.toNat - 1 - i=t+1/\j<0)):=(by omega);simp only[this],h.2⟩)
  ⟨hP.out.congr λj i hj hi=>by
   unfold partV;rw[AE (by omega)],hels,Fr.refl _ _⟩ _ rfl
 refine Az.1 (key.mono ?_);rintro e W' ⟨hv,h1,_,h3⟩;refine⟨hv,h1.congr λj i hj hi=> ?_,h3⟩;have hn:ph≠[]:=λe=>by rw[e]at hj;cases hj
 unfold partV;rw[AE hn,AB (.inl (by omega))]
end
