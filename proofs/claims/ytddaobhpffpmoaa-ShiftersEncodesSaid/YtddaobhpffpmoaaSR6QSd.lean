/-
  What the proof stands on.
-/
import Derived.Test.YtddaobhpffpmoaaSR6QSa
import Derived.Test.YtddaobhpffpmoaaSR6QSb
import Derived.Test.YtddaobhpffpmoaaSR6QSc
import Derived.Test.YtddaobhpffpmoaaSR6QGs
import Derived.Test.YtddaobhpffpmoaaSR6QSyN
set_option linter.all false
noncomputable section
namespace Go.Proofs.Ytddaobhpffpmoaa
open Go.RowKit
def rngPost2(id B bm:Nat)(I:Nat→World→Prop)(Ix Ir:World→Prop)(N k:Nat)(W:World):Exit→Act→World→Prop
 |.normal,_,W'=>k<N∧I (k+1) W'∧Fr (fun b=>b=bm∨b=B∨b=B+1) W W'
 |.exit j,_,W'=>j=id∧Ix W'∧Fr (fun b=>b=bm∨b=B∨b=B+1) W W'
 |.ret,_,W'=>Ir W'∧Fr (fun b=>b=bm∨b=B∨b=B+1) W W'
 |_,_,_=>False
theorem rng_law2{P:Program}{n:Nat}{g:Operand}{ps:Array Tmp}{assign body:Code}{Q:Exit→Act→World→Prop}{a:Act}{w:World}
  {gf:Nat} {lb:Array Value} (hg:a.eval g=.func (.func gf) #[] lb) (eg:∀args w,(callFunc gf args).run P w=.ok (.enter gf args) w)
  {enc:Nat→Array Value} {bm:Nat} {o:Obj} (hbm:bm<w.heap.size) (ho:w.heap[bm]? =some o) {N:Nat} (hseq:SeqC (n - 1) P gf lb enc bm o N) (hps:∀k,(enc k).size=ps.size)
  (id:Nat) (I:Nat→World→Prop) (Ix Ir:World→Prop)
  (hI:∀k W W',I k W→Fr (fun b=>b<w.heap.size∧b≠bm) W W'→I k W') (hIx:∀W W',Ix W→Fr (fun b=>b<w.heap.size∧b≠bm) W W'→Ix W') (hIr:∀W W',Ir W→Fr (fun b=>b<w.heap.size∧b≠bm) W W'→Ir W') (h0:I 0 w) (a₁:Nat→Act)
  (hassign:∀(l k:Nat) (W:World) (K:Act→World→Prop),K (a₁ k) W→
   assign.wpIn (Fence.wide.inRound l) (n - 1 - 1) P (Exit.then K (fun _ _ _=>False)) { tmps:=(ps.zip (enc k)).foldl (fun t (p,v)=>t.setIfInBounds p v) a.tmps,defers:=[] } W)
  (hbody:∀(l k:Nat) (W:World),I k W→k≤N→w.heap.size+2≤W.heap.size→body.wpIn (Fence.wide.inRound l) (n - 1 - 1) P (rngPost2 id w.heap.size bm I Ix Ir N k W) (a₁ k) W)
  (hstop:∀(D:Nat) (W:World),w.heap.size≤D→Ix W→W.heap[D]? =some (.deferred (some []))→(Code.exit id).wpIn Fence.wide n P Q { a with defers:={ target:=.collected D,args:= #[] }::a.defers } W)
  (hret:∀(D:Nat) (W:World),w.heap.size≤D→Ir W→W.heap[D]? =some (.deferred (some []))→Code.ret.wpIn Fence.wide n P Q { a with defers:={ target:=.collected D,args:= #[] }::a.defers } W):
  (Code.rangeFunc g ps assign body).wpIn Fence.wide n P Q a w:=by
 refine wpIn_rangeFunc ?_
 intro fn hfn
 obtain⟨rec,hrec⟩:∃rec:LoopState→Option Code→Loop,rec=fun st pe=>{ state:=st,pending:=pe,fn,tmps:=a.tmps,params:=ps,assign,body,defers:=w.heap.size }:=⟨_,rfl⟩
 obtain⟨W1,hW1⟩:∃W1,(w.alloc (.deferred (some []))).alloc (.loop (rec .ready none))=W1:=⟨_,rfl⟩
 have hL1:W1.heap[w.heap.size+1]? =some (.loop (rec .ready none)):=by
  rw[←hW1];have:=World.alloc_heap_new (w.alloc (.deferred (some []))) (.loop (rec .ready none));rwa [World.size_alloc]at this
 have hK1:W1.heap[w.heap.size]? =some (.deferred (some [])):=by
  rw[←hW1];exact(Below.heap_alloc _ _ _ (by simp)).trans (World.alloc_heap_new w _)
 have hF1:∀p,Fr p w W1:=fun p=>by rw[←hW1];exact(Fr.alloc p _ _).trans (Fr.alloc p _ _)
 have hput:∀(W:World) (q:Obj),Fr (fun b=>b<w.heap.size∧b≠bm) W (W.putObj (w.heap.size+1) q):=fun W q=>Fr.putObj _ _ _ (fun h=>by omega)
 refine⟨w.heap.size+1,[{ target:=.collected w.heap.size,args:= #[] }],W1,{ target:=.fn (.func gf) lb,args:= #[.func (.yield (w.heap.size+1)) #[] #[]] },W1,gf,
  #[.func (.yield (w.heap.size+1)) #[] #[]]++lb,W1,?_,?_,?_,?_,fun h=>(by cases h),?_⟩
 ·rw[←hW1,hrec];exact run_enterLoop_outer _ _ _ _ _
 ·simp only[resolve,hg]
  simp[go_sem]
 ·intro f' hf';trivial
 ·simp[invoke,go_sem,eg]
 ·refine(hseq (w.heap.size+1)
   (fun k W=>I k W∧W.heap[w.heap.size+1]? =some (.loop (rec .ready none))∧W.heap[w.heap.size]? =some (.deferred (some [])))
   (fun W=>(Ix W∧W.heap[w.heap.size+1]? =some (.loop (rec .done (some (.exit id))))∧W.heap[w.heap.size]? =some (.deferred (some [])))∨
    (Ir W∧W.heap[w.heap.size+1]? =some (.loop (rec .done (some .ret)))∧W.heap[w.heap.size]? =some (.deferred (some []))))
   W1
   (fun k A B hs hf=>⟨hI k A B hs.1 (hf.imp fun b _ h=>h.2),(hf.keep _ (Array.getElem?_eq_some_iff.1 hs.2.1).1 (by omega)).trans hs.2.1,(hf.keep _ (Array.getElem?_eq_some_iff.1 hs.2.2).1 (by omega)).trans hs.2.2⟩)
   ?_ ⟨hI _ _ _ h0 (hF1 _),hL1,hK1⟩ (((hF1 (fun _=>True)).keep bm hbm trivial).trans ho)).mono ?_
  ·rintro k W ⟨hi,hl,hk⟩ hlen
   have hlt:w.heap.size+1<W.heap.size:=(Array.getElem?_eq_some_iff.1 hl).1
   have hy:=run_yield (P:=P) (args:=enc k) hl (by rw[hrec];exact hps k)
   rw[hrec]at hy
   refine⟨fn,_,assign,body,hy,roundIn_of_wpIn hfn (hassign _ k W _ ⟨_,run_beginRound hl (by rw[hrec]),?_⟩)⟩
   have hl2:(W.putObj (w.heap.size+1) (.loop { rec .ready none with state:=.busy })).heap[w.heap.size+1]? =some (.loop { rec .ready none with state:=.busy }):=World.putObj_heap_same hlt
   have hk2:(W.putObj (w.heap.size+1) (.loop { rec .ready none with state:=.busy })).heap[w.heap.size]? =some (.deferred (some [])):=(World.putObj_heap_other (by omega)).trans hk
   have hm2:(W.putObj (w.heap.size+1) (.loop { rec .ready none with state:=.busy })).heap[bm]? =W.heap[bm]? :=World.putObj_heap_other (by omega)
   refine wpIn_mono (hbody _ k _ (hI _ _ _ hi (hput _ _)) hlen (by simp;omega)) ?_
   have fin:∀(jump:Option Code) (W3:World),Fr (fun b=>b=bm∨b=w.heap.size∨b=w.heap.size+1) (W.putObj (w.heap.size+1) (.loop { rec .ready none with state:=.busy })) W3→
     (Instr.endRound (w.heap.size+1) jump).run P W3=.ok (.bool jump.isNone) (W3.putObj (w.heap.size+1) (.loop (rec (if jump.isNone then .ready else .done) jump)))∧
     (W3.putObj (w.heap.size+1) (.loop (rec (if jump.isNone then .ready else .done) jump))).heap[w.heap.size+1]? =some (.loop (rec (if jump.isNone then .ready else .done) jump))∧
     (W3.putObj (w.heap.size+1) (.loop (rec (if jump.isNone then .ready else .done) jump))).heap[w.heap.size]? =some (.deferred (some []))∧
     (W3.putObj (w.heap.size+1) (.loop (rec (if jump.isNone then .ready else .done) jump))).heap[bm]? =W.heap[bm]? :=fun jump W3 hk3=>by
    have hl3:=(hk3.keep (w.heap.size+1) (by simp;omega) (.inr (.inr rfl))).trans hl2
    have:=run_endRound (P:=P) jump hl3
    rw[hrec]at this⊢
    exact⟨this,World.putObj_heap_same (Array.getElem?_eq_some_iff.1 hl3).1,(World.putObj_heap_other (by omega)).trans ((hk3.keep w.heap.size (by simp;omega) (.inr (.inl rfl))).trans hk2),
     (World.putObj_heap_other (by omega)).trans ((hk3.keep bm (by simp;omega) (.inl rfl)).trans hm2)⟩
   rintro e a3 W3 hp
   cases e with
   |normal=>
    obtain⟨hkN,hi3,hk3⟩:=hp
    obtain⟨hr,hl4,hk4,hm4⟩:=fin none W3 hk3
    exact⟨_,_,hr,.inl ⟨rfl,hkN,⟨hI _ _ _ hi3 (hput _ _),hl4,hk4⟩,hm4⟩⟩
   |exit j=>
    obtain⟨rfl,hi3,hk3⟩:=hp
    obtain⟨hr,hl4,hk4,hm4⟩:=fin (some (.exit j)) W3 hk3
    exact⟨_,_,hr,.inr ⟨rfl,.inl ⟨hIx _ _ hi3 (hput _ _),hl4,hk4⟩⟩⟩
   |ret=>
    obtain⟨hi3,hk3⟩:=hp
    obtain⟨hr,hl4,hk4,hm4⟩:=fin (some .ret) W3 hk3
    exact⟨_,_,hr,.inr ⟨rfl,.inr ⟨hIr _ _ hi3 (hput _ _),hl4,hk4⟩⟩⟩
   |goto t=>exact hp.elim
   |panic ch=>exact hp.elim
   |outgrown=>exact hp.elim
  ·rintro e W2 ⟨⟨v,rfl⟩,⟨hi,hl,hk⟩|⟨hi,hl,hk⟩⟩
   ·exact⟨some (.exit id),_,by have:=run_endLoop (P:=P) hl (by rw[hrec];simp);rw[hrec]at this;exact this,hstop _ _ (Nat.le_refl _) (hIx _ _ hi (hput _ _)) ((World.putObj_heap_other (by omega)).trans hk)⟩
   ·exact⟨some .ret,_,by have:=run_endLoop (P:=P) hl (by rw[hrec];simp);rw[hrec]at this;exact this,hret _ _ (Nat.le_refl _) (hIr _ _ hi (hput _ _)) ((World.putObj_heap_other (by omega)).trans hk)⟩
end Go.Proofs.Ytddaobhpffpmoaa
namespace Go.Proofs.Ytddaobhpffpmoaa
open Go.RowKit
attribute [local go_sem] Oper.semAt_some
def stopP(lim:Int)(st:Nat→Int)(s:Int)(k:Nat):Bool:=decide (lim<k)||(decide (0<k)&&st k==s)
structure Pb(B:Nat)(s lim r e:Int)(W:World):Prop where
 s:W.heap[B+1]? =some (.cells #[.int .u64 s] 85 (0,0))
 l:W.heap[B+1+1]? =some (.cells #[.int .i64 lim] 3 (0,0))
 r:W.heap[B+1+1+1]? =some (.cells #[.int .i64 r] 3 (0,0))
 e:W.heap[B+1+1+1+1]? =some (.cells #[.int .i64 e] 35 (0,0))
theorem Pb.fr{B:Nat}{s lim r e:Int}{W W':World}(h:Pb B s lim r e W){p:Nat→Prop}(hp:p (B+1)∧p (B+1+1)∧p (B+1+1+1)∧p (B+1+1+1+1))(hf:Fr p W W'):Pb B s lim r e W':=
 ⟨(hf.keep _ (Array.getElem?_eq_some_iff.1 h.s).1 hp.1).trans h.s,(hf.keep _ (Array.getElem?_eq_some_iff.1 h.l).1 hp.2.1).trans h.l,(hf.keep _ (Array.getElem?_eq_some_iff.1 h.r).1 hp.2.2.1).trans h.r,(hf.keep _ (Array.getElem?_eq_some_iff.1 h.e).1 hp.2.2.2).trans h.e⟩
theorem Pb.cells{B:Nat}{s lim r e:Int}{W:World}(h:Pb B s lim r e W):W.cell? ⟨B+1,0,none⟩=some (.int .u64 s)∧W.cell? ⟨B+1+1,0,none⟩=some (.int .i64 lim)∧W.cell? ⟨B+1+1+1,0,none⟩=some (.int .i64 r)∧W.cell? ⟨B+1+1+1+1,0,none⟩=some (.int .i64 e)∧
  W.frozen? ⟨B+1+1+1,0,none⟩=false∧W.frozen? ⟨B+1+1+1+1,0,none⟩=false:=by
 refine⟨?_,?_,?_,?_,?_,?_⟩<;>simp[World.cell?,World.frozen?,h.s,h.l,h.r,h.e]
theorem Pb.set{B:Nat}{s lim r e:Int}{W:World}(h:Pb B s lim r e W)(r' e':Int):Pb B s lim r' e' ((W.setCell ⟨B+1+1+1,0,none⟩ (.int .i64 r')).setCell ⟨B+1+1+1+1,0,none⟩ (.int .i64 e'))∧Fr (fun b=>b≠B+1+1+1∧b≠B+1+1+1+1) W ((W.setCell ⟨B+1+1+1,0,none⟩ (.int .i64 r')).setCell ⟨B+1+1+1+1,0,none⟩ (.int .i64 e')):=by
 have z1:=heap_setCell_same h.r 0 (.int .i64 r')
 have y2:(W.setCell ⟨B+1+1+1,0,none⟩ (.int .i64 r')).heap[B+1+1+1+1]? =some (.cells #[.int .i64 e] 35 (0,0)):=(Below.heap_setCell W ⟨B+1+1+1,0,none⟩ _ _ (show B+1+1+1+1≠B+1+1+1 by omega)).trans h.e
 have z2:=heap_setCell_same y2 0 (.int .i64 e')
 have hf:Fr (fun b=>b≠B+1+1+1∧b≠B+1+1+1+1) W ((W.setCell ⟨B+1+1+1,0,none⟩ (.int .i64 r')).setCell ⟨B+1+1+1+1,0,none⟩ (.int .i64 e')):=(Fr.setCell W _ _ (fun h=>h.1 rfl)).trans (Fr.setCell (W.setCell ⟨B+1+1+1,0,none⟩ (.int .i64 r')) _ _ (fun h=>h.2 rfl))
 exact⟨⟨(hf.keep _ (Array.getElem?_eq_some_iff.1 h.s).1 (by omega)).trans h.s,(hf.keep _ (Array.getElem?_eq_some_iff.1 h.l).1 (by omega)).trans h.l,(Below.heap_setCell _ ⟨B+1+1+1+1,0,none⟩ _ _ (show B+1+1+1≠B+1+1+1+1 by omega)).trans z1,z2⟩,hf⟩
theorem results_cell2{P:Program}{fn:Func}{p q:Tmp}{t1 t2:TypeId}(h:fn.results= #[.cell p t1,.cell q t2])(tmps:Array Value)(w:World)(a b:Addr)(v1 v2:Value)(hp:tmps.getD p undef=.pointer (some a))(hq:tmps.getD q undef=.pointer (some b))
  (h1:(loadVar t1 a).run P w=.ok v1 w) (h2:(loadVar t2 b).run P w=.ok v2 w):(results fn tmps).run P w=.ok (.tuple #[v1,v2]) w:=by
 have hp':tmps[p]?.getD undef=.pointer (some a):=by simpa using hp
 have hq':tmps[q]?.getD undef=.pointer (some b):=by simpa using hq
 simp[results,h,hp',hq',asAddr,h1,h2,Sem.run_bind,Result.andThen]
theorem load_3{w:World}{a:Addr}{v:Value}(h:w.cell? a=some v):(loadVar 3 a).run Try.prog w=.ok v w:=by
 unfold loadVar
 go_simp
theorem load_35{w:World}{a:Addr}{v:Value}(h:w.cell? a=some v):(loadVar 35 a).run Try.prog w=.ok v w:=by
 unfold loadVar
 go_simp
set_option maxRecDepth 100000 in
set_option maxHeartbeats 4000000 in
theorem per_ok(n:Nat)(w:World)(N T s lim:Int)(st:Nat→Int)(h0:st 0=s)(hst:∀k,M93.m ⟨N,T,st k⟩=some (N,T,st (k+1)))(hl:0≤lim∧lim≤1048576)(M:Nat)(hM:stopP lim st s M=true)(hlt:∀j,j<M→stopP lim st s j=false)(hM2:M≤lim.toNat+1)
   (h91:∀w1,Bel w.heap.size w w1→Calls Try.prog 91 #[.agg #[.int .i64 N,.int .u64 T],.int .u64 s] w1 fun e w'=>e=.returned (.tuple #[.agg #[.int .i64 N,.int .u64 T,.int .u64 s],.int .i64 0])∧Bel w1.heap.size w1 w'):
   CallsIn Fence.wide n Try.prog 55 #[.agg #[.int .i64 N,.int .u64 T],.int .u64 s,.int .i64 lim] w fun e w'=>
     e=.returned (.tuple #[.int .i64 (if lim<M then 0 else M),.int .i64 (if lim<M then 3 else 0)])∧Bel w.heap.size w w':=by
 refine callsIn_of_wp_marks Try.func55 rfl trivial ?_ rfl
 simp only[Try.ntmps55,List.size_toArray,List.length_cons,List.length_nil,Nat.reduceAdd,Nat.reduceSub,Array.replicate_succ,Array.replicate_zero,List.push_toArray,List.append_toArray,List.nil_append,List.cons_append]
 gi_wp2
 obtain⟨W1,hW1⟩:∃W1,(((((w.alloc (.cells #[.int .i64 N,.int .u64 T] 91)).alloc (.cells #[.int .u64 s] 85)).alloc (.cells #[.int .i64 lim] 3)).alloc (.cells #[.int .i64 0] 3)).alloc (.cells #[.int .i64 0] 35))=W1:=⟨_,rfl⟩
 have hF1:Fr (fun _=>True) w W1:=by rw[←hW1];exact((((Fr.alloc _ _ _).trans (Fr.alloc _ _ _)).trans (Fr.alloc _ _ _)).trans (Fr.alloc _ _ _)).trans (Fr.alloc _ _ _)
 have hP1:Pb w.heap.size s lim 0 0 W1:=by
   rw[←hW1]
   refine⟨?_,?_,?_,?_⟩
   · rw[Below.heap_alloc _ _ _ (by simp<;>omega),Below.heap_alloc _ _ _ (by simp<;>omega),Below.heap_alloc _ _ _ (by simp)]
     have:=World.alloc_heap_new (w.alloc (.cells #[.int .i64 N,.int .u64 T] 91)) (.cells #[.int .u64 s] 85)
     rwa [World.size_alloc]at this
   · rw[Below.heap_alloc _ _ _ (by simp<;>omega),Below.heap_alloc _ _ _ (by simp)]
     have:=World.alloc_heap_new ((w.alloc (.cells #[.int .i64 N,.int .u64 T] 91)).alloc (.cells #[.int .u64 s] 85)) (.cells #[.int .i64 lim] 3)
     rwa [World.size_alloc,World.size_alloc]at this
   · rw[Below.heap_alloc _ _ _ (by simp)]
     have:=World.alloc_heap_new (((w.alloc (.cells #[.int .i64 N,.int .u64 T] 91)).alloc (.cells #[.int .u64 s] 85)).alloc (.cells #[.int .i64 lim] 3)) (.cells #[.int .i64 0] 3)
     rwa [World.size_alloc,World.size_alloc,World.size_alloc]at this
   · have:=World.alloc_heap_new ((((w.alloc (.cells #[.int .i64 N,.int .u64 T] 91)).alloc (.cells #[.int .u64 s] 85)).alloc (.cells #[.int .i64 lim] 3)).alloc (.cells #[.int .i64 0] 3)) (.cells #[.int .i64 0] 35)
     rwa [World.size_alloc,World.size_alloc,World.size_alloc,World.size_alloc]at this
 have hs1:=(Array.getElem?_eq_some_iff.1 hP1.e).1
 rw[hW1]
 clear hW1
 refine⟨trivial,fun h=>(by cases h),(callsIn_wide.2 (h91 _ ((hF1.imp fun _ _ _=>trivial).bel (Nat.le_refl _)))).mono ?_⟩
 rintro e W2 ⟨rfl,hb2⟩
 have hP2:Pb w.heap.size s lim 0 0 W2:=hP1.fr (p:=(· <W1.heap.size)) (by omega) (Bel.fr hb2)
 have hs2:=hb2.size
 have hF2:Fr (fun _=>True) W1 W2∨True:=.inr trivial
 have k1:W2.cell? ⟨w.heap.size+1+1,0,none⟩=some (.int .i64 lim):=hP2.cells.2.1
 have k2:(W2.alloc (.cells #[.int .i64 N,.int .u64 T,.int .u64 s] 156)).cell? ⟨w.heap.size+1+1,0,none⟩=some (.int .i64 lim):=(hP2.fr (p:=fun _=>True) (by simp) (Fr.alloc _ _ _)).cells.2.1
 gi_wp2
 refine⟨trivial,fun h=>(by cases h),(states_walk _ _ N T s).mono ?_⟩
 rintro e w' ⟨rfl,rfl⟩
 gi_wp2
 obtain⟨W0,hW0⟩:∃W0,((W2.alloc (.cells #[.int .i64 N,.int .u64 T,.int .u64 s] 156)).alloc (.cells #[.int .i64 N,.int .u64 T,.int .u64 s] 156))=W0:=⟨_,rfl⟩
 have hF0:Fr (fun _=>True) W2 W0:=by rw[←hW0];exact(Fr.alloc _ _ _).trans (Fr.alloc _ _ _)
 have ho:W0.heap[W2.heap.size+1]? =some (.cells #[.int .i64 N,.int .u64 T,.int .u64 (st 0)] 156 (0,0)):=by
   rw[←hW0,h0]
   have:=World.alloc_heap_new (W2.alloc (.cells #[.int .i64 N,.int .u64 T,.int .u64 s] 156)) (.cells #[.int .i64 N,.int .u64 T,.int .u64 s] 156)
   rwa [World.size_alloc]at this
 have hsz:W0.heap.size=W2.heap.size+2:=by rw[←hW0];simp
 have hP0:Pb w.heap.size s lim 0 0 W0:=hP2.fr (p:=fun _=>True) (by simp) hF0
 have hbw:Bel w.heap.size w W0:=((hF1.imp fun _ _ _=>trivial).bel (B:=w.heap.size) (Nat.le_refl _)).trans ((Bel.le hb2 (by omega)).trans ((hF0.imp fun _ _ _=>trivial).bel (by omega)))
 rw[hW0]
 clear hW0
 refine rng_law2 (gf:=109) (lb:= #[.pointer (some ⟨W2.heap.size+1,0,none⟩)]) rfl (enters_of Try.func109 (by kernel_rfl) rfl) (enc:=fun k=> #[.int .i64 k,.int .u64 (st k)]) (bm:=W2.heap.size+1) (by omega) ho
   (states_seq (n - 1) (W2.heap.size+1) N T st M (by omega) hst) (fun _=>rfl) 1
   (fun k W=>k≤M∧Pb w.heap.size s lim 0 0 W∧Bel w.heap.size w W) (fun W=>lim<M∧Pb w.heap.size s lim 0 0 W∧Bel w.heap.size w W) (fun W=>¬lim<M∧Pb w.heap.size s lim M 0 W∧Bel w.heap.size w W)
   (fun k W W' h hf=>⟨h.1,h.2.1.fr (by omega) hf,h.2.2.trans ((hf.imp fun b _ hb=>by omega).bel h.2.2.size)⟩)
   (fun W W' h hf=>⟨h.1,h.2.1.fr (by omega) hf,h.2.2.trans ((hf.imp fun b _ hb=>by omega).bel h.2.2.size)⟩)
   (fun W W' h hf=>⟨h.1,h.2.1.fr (by omega) hf,h.2.2.trans ((hf.imp fun b _ hb=>by omega).bel h.2.2.size)⟩)
   ⟨Nat.zero_le _,hP0,hbw⟩
   (fun k=>{ tmps:= #[.agg #[.int .i64 N,.int .u64 T],.int .u64 s,.int .i64 lim,.pointer (some ⟨w.heap.size,0,none⟩),.pointer (some ⟨w.heap.size+1,0,none⟩),.pointer (some ⟨w.heap.size+1+1,0,none⟩),.pointer (some ⟨w.heap.size+1+1+1,0,none⟩),.pointer (some ⟨w.heap.size+1+1+1+1,0,none⟩),
     .pointer (some ⟨W2.heap.size,0,none⟩),.int .i64 0,.int .i64 k,.int .u64 (st k),.tuple #[.agg #[.int .i64 N,.int .u64 T,.int .u64 s],.int .i64 0],.agg #[.int .i64 N,.int .u64 T],.int .u64 s,.tuple #[.agg #[.int .i64 N,.int .u64 T,.int .u64 s],.int .i64 0],.agg #[.int .i64 N,.int .u64 T,.int .u64 s],
     .int .i64 0,.bool false,.int .i64 0,.bool false,undef,.bool (decide (lim<0)),.int .i64 lim,.bool (decide (lim<0)),.bool (decide (1048576<lim)),.int .i64 lim,.bool (decide (1048576<lim)),.agg #[.int .i64 N,.int .u64 T,.int .u64 s],
     .func (.func 109) #[] #[.pointer (some ⟨W2.heap.size+1,0,none⟩)],.int .i64 k,.int .u64 (st k),undef,undef,undef,undef,undef,undef,undef,undef,undef,undef,undef],defers:=[] }) ?assign ?body ?stop ?ret
 case assign=>
   intro l k W K hK
   gi_wp2
   exact hK
 case body=>
   rintro l k W ⟨hk,hp,hb⟩ hkl hsW
   obtain⟨c1,c2,c3,c4,c5,c6⟩:=hp.cells
   have hset:=hp.set k 0
   have hst1:stopP lim st s k=true→k=M:=fun h=>by
     rcases Nat.lt_or_ge k M with h1|h1
     · rw[hlt k h1]at h;cases h
     · omega
   have hst2:stopP lim st s k=false→k<M:=fun h=>by
     rcases Nat.lt_or_ge k M with h1|h1
     · exact h1
     · have:k=M:=by omega
       rw[this,hM]at h;cases h
   have HS:=hset
   replace HS:Hid (Pb w.heap.size s lim k 0 ((W.setCell ⟨w.heap.size+1+1+1,0,none⟩ (.int .i64 k)).setCell ⟨w.heap.size+1+1+1+1,0,none⟩ (.int .i64 0))∧Fr (fun b=>b≠w.heap.size+1+1+1∧b≠w.heap.size+1+1+1+1) W ((W.setCell ⟨w.heap.size+1+1+1,0,none⟩ (.int .i64 k)).setCell ⟨w.heap.size+1+1+1+1,0,none⟩ (.int .i64 0))):=hset
   have H1:Hid (stopP lim st s k=true→k=M):=hst1
   have H2:Hid (stopP lim st s k=false→k<M):=hst2
   clear hset hst1 hst2 hM hlt
   gi_wp2
   · have e:=H1.out (by simp[stopP];omega)
     exact⟨rfl,⟨by omega,hp,hb⟩,Fr.refl _ _⟩
   · have e:=H1.out (by simp[*,stopP])
     subst e
     exact⟨⟨by omega,HS.out.1,hb.trans ((HS.out.2.imp fun b _ hb=>by omega).bel hb.size)⟩,HS.out.2.imp fun b _ hb=>by omega⟩
   · exact⟨H2.out (by simp[*,stopP]<;>omega),⟨H2.out (by simp[*,stopP]<;>omega),hp,hb⟩,Fr.refl _ _⟩
   · exact⟨H2.out (by simp[*,stopP]<;>omega),⟨H2.out (by simp[*,stopP]<;>omega),hp,hb⟩,Fr.refl _ _⟩
 case stop=>
   rintro D W hD ⟨hlM,hp,hb⟩ hK
   obtain⟨c1,c2,c3,c4,c5,c6⟩:=hp.cells
   obtain⟨hset,hfs⟩:=hp.set 0 3
   have hK2:=(hfs.keep D (Array.getElem?_eq_some_iff.1 hK).1 (by omega)).trans hK
   gi_wp2
   refine⟨by simp,.inl ⟨_,_,rfl,run_takeDeferred hK2,?_⟩⟩
   refine⟨_,results_cell2 rfl _ _ _ _ _ _ rfl rfl (load_3 (hset.fr (p:=(· ≠D)) (by omega) (Fr.putObj _ _ _ (fun h=>h rfl))).cells.2.2.1) (load_35 (hset.fr (p:=(· ≠D)) (by omega) (Fr.putObj _ _ _ (fun h=>h rfl))).cells.2.2.2.1),rfl,hb.trans ((Fr.trans (hfs.imp fun b _ hb=>by omega) (Fr.putObj _ _ _ (by omega))).bel hb.size)⟩
 case ret=>
   rintro D W hD ⟨hlM,hp,hb⟩ hK
   obtain⟨c1,c2,c3,c4,c5,c6⟩:=hp.cells
   gi_wp2
   refine⟨by simp,.inl ⟨_,_,rfl,run_takeDeferred hK,?_⟩⟩
   refine⟨_,results_cell2 rfl _ _ _ _ _ _ rfl rfl (load_3 (hp.fr (p:=(· ≠D)) (by omega) (Fr.putObj _ _ _ (fun h=>h rfl))).cells.2.2.1) (load_35 (hp.fr (p:=(· ≠D)) (by omega) (Fr.putObj _ _ _ (fun h=>h rfl))).cells.2.2.2.1),rfl,hb.trans ((Fr.putObj _ _ _ (by omega)).bel hb.size)⟩
end Go.Proofs.Ytddaobhpffpmoaa
namespace Go.Proofs.Ytddaobhpffpmoaa
open Go.Abs Go.RowKit
def firstP(lim:Int)(st:Nat→Int)(s:Int):Nat:=((List.range (lim.toNat+2)).find? (stopP lim st s)).getD 0
theorem firstP_spec{lim:Int}(h:0≤lim)(st:Nat→Int)(s:Int):stopP lim st s (firstP lim st s)=true∧(∀j,j<firstP lim st s→stopP lim st s j=false)∧firstP lim st s≤lim.toNat+1:=by
 unfold firstP
 cases hf:(List.range (lim.toNat+2)).find? (stopP lim st s) with
 |none=>
  have:=List.find?_eq_none.1 hf (lim.toNat+1) (by simp)
  exfalso
  apply this
  unfold stopP
  rw[decide_eq_true (by omega)];rfl
 |some i=>
  obtain⟨h1,h2,h3⟩:=List.find?_range_eq_some.1 hf
  refine⟨h1,fun j hj=>by simpa using h3 j hj,by have:=List.mem_range.1 h2;simp only[Option.getD_some];omega⟩
theorem pb_new(w:World)(N T s lim:Int):Pb w.heap.size s lim 0 0 (((((w.alloc (.cells #[.int .i64 N,.int .u64 T] 91)).alloc (.cells #[.int .u64 s] 85)).alloc (.cells #[.int .i64 lim] 3)).alloc (.cells #[.int .i64 0] 3)).alloc (.cells #[.int .i64 0] 35)):=by
 refine⟨?_,?_,?_,?_⟩
 ·rw[Below.heap_alloc _ _ _ (by simp<;>omega),Below.heap_alloc _ _ _ (by simp<;>omega),Below.heap_alloc _ _ _ (by simp)]
  have:=World.alloc_heap_new (w.alloc (.cells #[.int .i64 N,.int .u64 T] 91)) (.cells #[.int .u64 s] 85)
  rwa [World.size_alloc]at this
 ·rw[Below.heap_alloc _ _ _ (by simp<;>omega),Below.heap_alloc _ _ _ (by simp)]
  have:=World.alloc_heap_new ((w.alloc (.cells #[.int .i64 N,.int .u64 T] 91)).alloc (.cells #[.int .u64 s] 85)) (.cells #[.int .i64 lim] 3)
  rwa [World.size_alloc,World.size_alloc]at this
 ·rw[Below.heap_alloc _ _ _ (by simp)]
  have:=World.alloc_heap_new (((w.alloc (.cells #[.int .i64 N,.int .u64 T] 91)).alloc (.cells #[.int .u64 s] 85)).alloc (.cells #[.int .i64 lim] 3)) (.cells #[.int .i64 0] 3)
  rwa [World.size_alloc,World.size_alloc,World.size_alloc]at this
 ·have:=World.alloc_heap_new ((((w.alloc (.cells #[.int .i64 N,.int .u64 T] 91)).alloc (.cells #[.int .u64 s] 85)).alloc (.cells #[.int .i64 lim] 3)).alloc (.cells #[.int .i64 0] 3)) (.cells #[.int .i64 0] 35)
  rwa [World.size_alloc,World.size_alloc,World.size_alloc,World.size_alloc]at this
set_option maxHeartbeats 1000000 in
theorem per_err(w:World)(N T s lim e1 R:Int)(m0 m1 m2:Int)(hR:(e1≠0∧R=e1)∨(e1=0∧lim<0∧R=1)∨(e1=0∧1048576<lim∧R=3))
  (h91:∀w1,Bel w.heap.size w w1→Calls Try.prog 91 #[.agg #[.int .i64 N,.int .u64 T],.int .u64 s] w1 fun e w'=>e=.returned (.tuple #[.agg #[.int .i64 m0,.int .u64 m1,.int .u64 m2],.int .i64 e1])∧Bel w1.heap.size w1 w'):
  Calls Try.prog 55 #[.agg #[.int .i64 N,.int .u64 T],.int .u64 s,.int .i64 lim] w fun e w'=>e=.returned (.tuple #[.int .i64 0,.int .i64 R])∧Bel w.heap.size w w':=by
 go_enter Try.func55,Try.ntmps55
 have hbw:Bel w.heap.size w (((((w.alloc (.cells #[.int .i64 N,.int .u64 T] 91)).alloc (.cells #[.int .u64 s] 85)).alloc (.cells #[.int .i64 lim] 3)).alloc (.cells #[.int .i64 0] 3)).alloc (.cells #[.int .i64 0] 35)):=(((((Fr.alloc _ _ _).trans (Fr.alloc _ _ _)).trans (Fr.alloc _ _ _)).trans (Fr.alloc _ _ _)).trans (Fr.alloc _ _ _)).bel (Nat.le_refl _)
 go_wp2_with (go_at_call 91;refine(h91 _ hbw).mono ?_)
 rintro e w1 ⟨rfl,hb1⟩
 have hs1:=hb1.size
 have hP2:Pb w.heap.size s lim 0 0 w1:=(pb_new w N T s lim).fr (p:=(· <w.heap.size+5)) (by omega) ((Bel.fr hb1).imp fun b _ hb=>by simp;omega)
 have hbw2:=hbw.trans (Bel.le hb1 (by simp;omega))
 clear hbw hb1 h91
 obtain⟨W2,hW2⟩:∃W2,w1.alloc (.cells #[.int .i64 m0,.int .u64 m1,.int .u64 m2] 156)=W2:=⟨_,rfl⟩
 have hP3:Pb w.heap.size s lim 0 0 W2:=hW2▸hP2.fr (p:=fun _=>True) (by simp) (Fr.alloc _ _ _)
 have hb3:Bel w.heap.size w W2:=hW2▸hbw2.trans ((Fr.alloc _ _ _).bel hbw2.size)
 obtain⟨d1,d2,d3,d4,d5,d6⟩:=hP3.cells
 rcases hR with ⟨he,hR⟩|⟨rfl,hl,hR⟩|⟨rfl,hl,hR⟩
 ·have he':(e1==0)=false:=by simpa using he
  subst hR
  obtain⟨hset,hfs⟩:=hP3.set 0 R
  subst hW2
  go_wp2
  exact bodyPost_ret (results_cell2 rfl _ _ _ _ _ _ rfl rfl (load_3 hset.cells.2.2.1) (load_35 hset.cells.2.2.2.1)) rfl ⟨rfl,hb3.trans ((hfs.imp fun b _ hb=>by omega).bel hb3.size)⟩
 ·subst hR
  obtain⟨hset,hfs⟩:=hP3.set 0 1
  subst hW2
  go_wp2
  exact bodyPost_ret (results_cell2 rfl _ _ _ _ _ _ rfl rfl (load_3 hset.cells.2.2.1) (load_35 hset.cells.2.2.2.1)) rfl ⟨rfl,hb3.trans ((hfs.imp fun b _ hb=>by omega).bel hb3.size)⟩
 ·subst hR
  obtain⟨hset,hfs⟩:=hP3.set 0 3
  subst hW2
  go_wp2
  exact bodyPost_ret (results_cell2 rfl _ _ _ _ _ _ rfl rfl (load_3 hset.cells.2.2.1) (load_35 hset.cells.2.2.2.1)) rfl ⟨rfl,hb3.trans ((hfs.imp fun b _ hb=>by omega).bel hb3.size)⟩
namespace M55
structure gX where
 n:Int
 t:Int
 s:Int
 l:Int
def g:Sg gX where
 vs:=[.agg [.it .i64,.it .u64],.c (.it .u64),.c (.it .i64)]
 h:=[]
 to:=fun a b=>⟨a.1.1,a.1.2.1,a.2.1,a.2.2.1⟩
 fa:=fun x=>((x.n,(x.t,())),(x.s,(x.l,())))
 fh:=fun x=>()
abbrev fY:=Int×Int
def f:Ft fY where
 ord:=none
 sh:=.tup [.inl (.it .i64),.inl (.it .i64)]
 h:=[]
 to:=fun a b=>(a.1,a.2.1)
 fv:=fun y=>(y.1,(y.2,()))
 fh:=fun y=>()
def res(x:gX):fY:=bif decide (x.l<firstP x.l (M61.st x.n x.t x.s) x.s) then (0,3) else (firstP x.l (M61.st x.n x.t x.s) x.s,0)
def m(x:gX):Option fY:=bindO (M91.m ⟨x.n,x.t,x.s⟩) fun y=>bif y.2.2.2 !=0 then some (0,y.2.2.2) else bif decide (x.l<0) then some (0,1) else bif decide (1048576<x.l) then some (0,3) else bif decide (0≤x.n) then some (res x) else none
theorem callable55:callable Try.prog 55:=⟨Try.f55,Try.func55,by kernel_rfl,by kernel_rfl⟩
theorem args55{ι:Map}{w:World}{n t s l:Int}{cargs:Array Value}(ha:argsR ι w [.agg [.t (.int .i64 n),.t (.int .u64 t)],.c (.t (.int .u64 s)),.c (.t (.int .i64 l))] cargs):cargs= #[.agg #[.int .i64 n,.int .u64 t],.int .u64 s,.int .i64 l]:=by
 obtain⟨hsz,ha⟩:=ha
 obtain⟨u,e0,h0⟩:=ha 0 (by simp)
 obtain⟨us,es,hs⟩:=ha 1 (by simp)
 obtain⟨ul,el,hl⟩:=ha 2 (by simp)
 have hs:TR ι.un w (.int .u64 s) us:=hs
 have hl:TR ι.un w (.int .i64 l) ul:=hl
 cases hs;cases hl
 obtain⟨arr,rfl,h1,h2⟩:=h0
 obtain⟨u1,e1,g1⟩:=h2 0 (by simp)
 obtain⟨u2,e2,g2⟩:=h2 1 (by simp)
 have g1:TR ι.un w (.int .i64 n) u1:=g1
 have g2:TR ι.un w (.int .u64 t) u2:=g2
 cases g1;cases g2
 have ea:arr= #[.int .i64 n,.int .u64 t]:=by
  refine Array.ext (by simpa using h1) fun i hi _=> ?_
  have hi:i<2:=by simpa [h1] using hi
  match i,hi with
  |0,_=>exact(Array.getElem?_eq_some_iff.1 e1).2
  |1,_=>exact(Array.getElem?_eq_some_iff.1 e2).2
 refine Array.ext (by simpa using hsz) fun i hi _=> ?_
 have hi:i<3:=by simpa [hsz] using hi
 match i,hi with
 |0,_=>rw[(Array.getElem?_eq_some_iff.1 e0).2,ea];rfl
 |1,_=>exact(Array.getElem?_eq_some_iff.1 es).2
 |2,_=>exact(Array.getElem?_eq_some_iff.1 el).2
theorem known:Known Try.prog 55 g f m:=by
 refine⟨fun _ _=>⟨rfl,rfl⟩,by decide,fun x y hy=> ?_⟩
 obtain⟨n,t,s,l⟩:=x
 unfold m at hy
 obtain⟨y1,hy1,hy⟩:=bindO_some hy
 have h91:FnOk Try.prog 91 [.agg [.t (.int .i64 n),.t (.int .u64 t)],.c (.t (.int .u64 s))] [] fun v τ=>v=.tup [.inr [.t (.int .i64 y1.1),.t (.int .u64 y1.2.1),.t (.int .u64 y1.2.2.1)],.inl (.t (.int .i64 y1.2.2.2))]∧τ=[]:=M91.known.ok ⟨n,t,s⟩ y1 hy1
 show FnOk Try.prog 55 [.agg [.t (.int .i64 n),.t (.int .u64 t)],.c (.t (.int .u64 s)),.c (.t (.int .i64 l))] [] fun v τ=>v=.tup [.inl (.t (.int .i64 y.1)),.inl (.t (.int .i64 y.2))]∧τ=[]
 refine M61.fn_belW callable55 fun ι w cargs hH ha=> ?_
 obtain rfl:=args55 ha
 have c91:∀w1,Bel w.heap.size w w1→Calls Try.prog 91 #[.agg #[.int .i64 n,.int .u64 t],.int .u64 s] w1 fun e w'=>e=.returned (.tuple #[.agg #[.int .i64 y1.1,.int .u64 y1.2.1,.int .u64 y1.2.2.1],.int .i64 y1.2.2.2])∧Bel w1.heap.size w1 w':=fun w1 hb=>
  (M32.calls_of h91 hH (M61.args91 ι w n t s) hb rfl).mono fun e w' ⟨⟨ι',cv,h1,h2⟩,h3⟩=>⟨by rw[h1,M61.res91 h2],h3⟩
 have out:∀(w':World) (a b:Int),VR ι w' (.tup [.inl (.t (.int .i64 a)),.inl (.t (.int .i64 b))]) (.tuple #[.int .i64 a,.int .i64 b]):=fun w' a b=>M61.resOut (TR.int _ _)
 have err:∀R,((y1.2.2.2≠0∧R=y1.2.2.2)∨(y1.2.2.2=0∧l<0∧R=1)∨(y1.2.2.2=0∧1048576<l∧R=3))→y=(0,R)→Calls Try.prog 55 #[.agg #[.int .i64 n,.int .u64 t],.int .u64 s,.int .i64 l] w fun e w'=>(∃cv,e=.returned cv∧VR ι w' (.tup [.inl (.t (.int .i64 y.1)),.inl (.t (.int .i64 y.2))]) cv)∧Bel w.heap.size w w':=fun R hR hy=>by
  subst hy
  exact(per_err w n t s l y1.2.2.2 R _ _ _ hR c91).mono fun e w' ⟨h1,h2⟩=>⟨⟨_,h1,out _ _ _⟩,h2⟩
 cases hz:(y1.2.2.2 !=0) with
 |true=>
  rw[hz]at hy;cases hy
  exact err _ (.inl ⟨by simpa using hz,rfl⟩) rfl
 |false=>
  have h0:y1.2.2.2=0:=by simpa using hz
  rw[hz]at hy
  by_cases hl:l<0
  ·simp only[cond_false,decide_eq_true hl,cond_true]at hy
   cases hy
   exact err _ (.inr (.inl ⟨h0,hl,rfl⟩)) rfl
  ·by_cases hb:1048576<l
   ·simp only[cond_false,decide_eq_false hl,decide_eq_true hb,cond_true]at hy
    cases hy
    exact err _ (.inr (.inr ⟨h0,hb,rfl⟩)) rfl
   ·by_cases hn:0≤n
    ·simp only[cond_false,decide_eq_false hl,decide_eq_false hb,decide_eq_true hn,cond_true]at hy
     cases hy
     obtain rfl:=M61.begin_ok hy1 h0
     obtain⟨f1,f2,f3⟩:=firstP_spec (show 0≤l by omega) (M61.st n t s) s
     refine callsIn_wide.1 ((per_ok 0 w n t s l (M61.st n t s) rfl (M61.hst n t s hn) ⟨by omega,by omega⟩ _ f1 f2 f3 c91).mono ?_)
     rintro e w' ⟨h1,h2⟩
     refine⟨⟨_,h1,?_⟩,h2⟩
     have:res ⟨n,t,s,l⟩=(if l<firstP l (M61.st n t s) s then 0 else (firstP l (M61.st n t s) s:Int),if l<firstP l (M61.st n t s) s then 3 else 0):=by
      unfold res
      by_cases h:l<firstP l (M61.st n t s) s
      ·simp only[decide_eq_true h,cond_true,if_pos h]
      ·simp only[decide_eq_false h,cond_false,if_neg h]
     rw[this]
     exact out _ _ _
    ·simp only[cond_false,decide_eq_false hl,decide_eq_false hb,decide_eq_false hn]at hy
     cases hy
def con:Con:=conT g f m default
theorem con_ok:ConOk Try.prog 55 con:=conT_ok known (fun _=>rfl) rfl
end M55
end Go.Proofs.Ytddaobhpffpmoaa
namespace Go.Proofs.Ytddaobhpffpmoaa
open Go.Abs Go.RowKit
theorem calls_tree{f:FuncId}{args:List AV}{v:AV}(h:FnOk Try.prog f args [] fun u τ=>u=v∧τ=[]){w1:World}{cargs:Array Value}(ha:argsR noMap w1 args cargs):
  Calls Try.prog f cargs w1 fun e w'=>(∃ι' cv,e=.returned cv∧VR ι' w' v cv)∧Bel w1.heap.size w1 w':=by
 refine callsIn_wide.1 (CallsIn.mono (h.2 noMap w1 cargs (fun g c x h=>by cases h) (noMap_HR w1) ha) fun e w' ⟨v',σ',ι',cv,he,⟨h1,h2⟩,h3,h4,h5⟩=> ?_)
 subst h1;subst h2
 exact⟨⟨ι',cv,he,h3⟩,⟨h5.os,h5.out,h5.size,fun b hb=>h5.frame b hb (noMap_un b)⟩⟩
end Go.Proofs.Ytddaobhpffpmoaa
