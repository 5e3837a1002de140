/- A part of the proof. -/
import Derived.Test.YtpbplpgfloaaiaaGreatDoorXS2QZa
import Derived.Test.YtpbplpgfloaaiaaGreatDoorXS2QSyL
import Derived.Test.YtpbplpgfloaaiaaGreatDoorXS2QAbsX
import Derived.WalkKit
import Derived.BigCall
import Derived.RangeFuncNested
import Derived.RangeFuncBound
import Derived.RangeFuncCalls
import Derived.RangeFuncLeaves
import Derived.OwnWalkIn
import Derived.TacticsInMore
import Derived.LoopNIn
import Derived.LoopIn
import Derived.Maps.AppendAt
import Derived.Laws.IdiomStrings
import Derived.Maps.OwnSet
import Derived.Maps.RangeWalk
import Derived.Maps.Ext
import Derived.DeepKeys3
set_option linter.all false
set_option maxRecDepth 1000000
set_option maxHeartbeats 4000000
noncomputable section
namespace Go.Proofs.YtpbplpgfloaaiaaGreatDoor
open Go.Abs
open Go.IntKind(i64)
open Sum(inl inr)
open Go.Proofs.Tryz(prog)
section
open Go.RowKit
namespace Aw
structure Bel(B:Nat)(w w':World):Prop where
 os:w'.os=w.os
 out:w'.output=w.output
 size:w.heap.size<=w'.heap.size
 block:∀k,k<B->w'.heap[k]? =w.heap[k]?
def Bel.refl(B:Nat)(w:World):Bel B w w:=⟨rfl,rfl,A5 _,λ_ _=>rfl⟩
def Bel.trans{B:Nat}{w w1 w2:World}(h:Bel B w w1)(h':Bel B w1 w2):Bel B w w2:=⟨h'.os.trans h.os,h'.out.trans h.out,Ao h.size h'.size,λk hk=>(h'.block k hk).trans (h.block k hk)⟩
def Bel.le{B B':Nat}{w w':World}(h:Bel B w w')(hB:B'<=B):Bel B' w w':=⟨h.os,h.out,h.size,λk hk=>h.block k (by omega)⟩
def Bel.alloc{B:Nat}{w:World}(o:Obj)(hB:B<=w.heap.size):Bel B w (w.alloc o):=⟨rfl,rfl,by simp,λb hb=>Below.heap_alloc w o b (by omega)⟩
def Bel.setCell{B:Nat}{w:World}(a:Addr)(v:Value)(hl:B<=a.block):Bel B w (w.setCell a v):=⟨rfl,rfl,by simp[World.setCell],λb hb=>Below.heap_setCell w a v b (by omega)⟩
def calls_tree{f:FuncId}{args:List AV}{v:AV}(h:Jw prog f args [] λu τ=>u=v/\τ=[]){w1:World}{cargs:Array Value}(hg:XZ Qd w1)(ha:KX Qd w1 args cargs):
  Calls prog f cargs w1 λe w'=>(∃I' cv,e=.returned cv/\VR I' w' v cv)/\Bel w1.heap.size w1 w':=by
 refine callsIn_wide.1 (Bt (h.2 Qd w1 cargs hg (noMap_HR w1) ha) λe w' ⟨v',S',I',cv,he,⟨h1,h2⟩,h3,h4,h5⟩=> ?_);subst h1;subst h2;exact⟨⟨I',cv,he,h3⟩,⟨h5.os,h5.out,h5.size,λb hb=>h5.frame b hb (Jx b)⟩⟩
def isRow.lt{w:World}{b:Nat}(h:isRow w b):b<w.heap.size:=by obtain⟨c,e,fr,h2⟩:=h;exact(A8.1 h2).1
def gl_bel{w w':World}(h:XZ Qd w)(hb:Bel w.heap.size w w'):XZ Qd w':=h.mono λb _ hr=>⟨Jx b,hb.block b hr.lt⟩
def fn_bel{f:FuncId}{args:List AV}{v:AV}(hc:Xn prog f)
  (h:∀O w cargs,XZ Qd w->HR O [] w->KX O w args cargs->∃cv,(∀w',VR O w' v cv)/\Calls prog f cargs w λe w'=>e=.returned cv/\Bel w.heap.size w w'):
  Jw prog f args [] λu τ=>u=v/\τ=[]:=by
 refine⟨hc,λO w cargs hg hH ha=> ?_⟩;obtain⟨cv,hv,hcall⟩:=h O w cargs (hg.mono λb _ _=>⟨Jx b,rfl⟩) hH ha;refine Bt (callsIn_wide.2 hcall) λe w' ⟨he,hb⟩=> ?_;have hs:Step O [] w O [] w':=⟨A5 _,hb.size,hb.os,hb.out,λid s h1=>⟨s,h1,A5 _,λ_=>rfl⟩,λid _ h1=>h1,λid s l h1 h2=>.inr ⟨id,s,l,h1,h2,rfl⟩,rfl,rfl,λb hr=>hb.block b (hH.resRow b hr).lt,λb h1 _=>hb.block b h1⟩;refine⟨v,[],O,cv,he,⟨rfl,rfl⟩,hv w',⟨λid s h1=> ?_,hH.inj,λb hr=> ?_,hH.resNo⟩,hs⟩
 ·obtain⟨o,h2,_⟩:=hH.obj id s h1;simp at h2
 ·obtain⟨c,e,fr,h2⟩:=hH.resRow b hr;exact⟨c,e,fr,(hb.block b (A8.1 h2).1).trans h2⟩
end Aw
namespace M52
structure gX where(i:Int)
def g:Sg gX:=⟨[cI],[],λa b=>⟨a.1⟩,λx=>(x.i,()),λx=>()⟩
abbrev fY:=List UInt8
def f:Ft fY:=⟨none,.c .sg,[],λa b=>a,λy=>y,λy=>()⟩
def nm(i:Nat):List UInt8:=[110,UInt8.ofNat (48+i / 10),UInt8.ofNat (48+i%10)]
def m(x:gX):Option fY:=if 0<=x.i/\x.i<100 then some (nm x.i.toNat) else none
def callable52:Xn prog 52:=⟨Tryz.f52,Tryz.func52,by kernel_rfl,by kernel_rfl⟩
def name_walk(w:World)(i:Nat)(hi:i<100):Calls prog 52 #[.int .i64 i] w λe w'=>e=.returned (.string ⟨(nm i).toArray⟩)/\Aw.Bel w.heap.size w w':=by
 have k0:=AQ w (.cells #[.int .u8 110,.int .u8 (48+(i:Int) / 10),.int .u8 (48+(i:Int)%10)] 5);have hcv:Sem.run prog (convert 25 9 (.slice (some ⟨w.heap.size,0,none⟩) 3 3)) (w.alloc (.cells #[.int .u8 110,.int .u8 (48+(i:Int) / 10),.int .u8 (48+(i:Int)%10)] 5))=.ok (.string ⟨(nm i).toArray⟩) (w.alloc (.cells #[.int .u8 110,.int .u8 (48+(i:Int) / 10),.int .u8 (48+(i:Int)%10)] 5)):=
  run_convert_bytes_back _ 25 9 5 ⟨w.heap.size,0,none⟩ 3 (nm i) Tryz.underlying25 Tryz.underlying5 Tryz.underlying9 (λj hj=>by
   have hj:j<3:=hj;have e1:((UInt8.ofNat (48+i / 10)).toNat:Int)=48+(i:Int) / 10:=(by simp;omega);have e2:((UInt8.ofNat (48+i%10)).toNat:Int)=48+(i:Int)%10:=(by simp;omega);rcases (show j=0\/j=1\/j=2 by omega) with rfl|rfl|rfl
   ·show(w.alloc (.cells #[.int .u8 110,.int .u8 (48+(i:Int) / 10),.int .u8 (48+(i:Int)%10)] 5)).cell? ⟨w.heap.size,0,none⟩=some (.int .u8 ((110:UInt8).toNat:Int));simp only[World.cell?,k0];rfl
   ·show(w.alloc (.cells #[.int .u8 110,.int .u8 (48+(i:Int) / 10),.int .u8 (48+(i:Int)%10)] 5)).cell? ⟨w.heap.size,1,none⟩=some (Value.int .u8 ((UInt8.ofNat (48+i / 10)).toNat:Int));rw[e1];simp only[World.cell?,k0];rfl
   ·show(w.alloc (.cells #[.int .u8 110,.int .u8 (48+(i:Int) / 10),.int .u8 (48+(i:Int)%10)] 5)).cell? ⟨w.heap.size,2,none⟩=some (Value.int .u8 ((UInt8.ofNat (48+i%10)).toNat:Int));rw[e2];simp only[World.cell?,k0];rfl)
 go_enter Tryz.func52,Tryz.ntmps52
 go_wp2
 exact BO (results_tmp rfl _ _ _) rfl ⟨rfl,Aw.Bel.alloc _ (A5 _)⟩
def known:QQ prog 52 g f m:=by
 refine⟨λ_ _=>⟨rfl,rfl⟩,by decide,λ⟨k⟩ y h=> ?_⟩;by_cases hk:0<=k/\k<100
 ·have h:(if 0<=k/\k<100 then some (nm k.toNat) else none)=some y:=h;rw[AC hk]at h;obtain rfl:=BA h;obtain⟨i,rfl⟩:∃i:Nat,k=i:=⟨k.toNat,by omega⟩;refine Aw.fn_bel callable52 λO w cargs hg hH ha=>⟨.string ⟨(nm i).toArray⟩,λw'=>TR.str _,?_⟩;obtain⟨u,e0,hv⟩:=ha.2 0 Nat.one_pos;have hv:TR O.un w (.int .i64 (i:Int)) u:=hv;cases hv;have hc:cargs= #[.int .i64 (i:Int)]:=(by have h1:cargs.size=1:=ha.1;refine Cc h1 λj hj _=> ?_;obtain rfl:j=0:=(by omega);exact(A8.1 e0).2);rw[hc];exact name_walk w i (by omega)
 ·have h:(if 0<=k/\k<100 then some (nm k.toNat) else none)=some y:=h;rw[AK hk]at h;cases h
end M52
end
section
open Go.RowKit
namespace Rf
structure Fr(p:Nat->Prop)(w w':World):Prop where
 os:w'.os=w.os
 out:w'.output=w.output
 size:w.heap.size<=w'.heap.size
 keep:∀b,b<w.heap.size->p b->w'.heap[b]? =w.heap[b]?
def Fr.refl(p:Nat->Prop)(w:World):Fr p w w:=⟨rfl,rfl,A5 _,λ_ _ _=>rfl⟩
def Fr.trans{p:Nat->Prop}{w w1 w2:World}(h:Fr p w w1)(h':Fr p w1 w2):Fr p w w2:=
 ⟨h'.os.trans h.os,h'.out.trans h.out,Ao h.size h'.size,λb hb hp=>(h'.keep b (Bl hb h.size) hp).trans (h.keep b hb hp)⟩
def Fr.imp{p q:Nat->Prop}{w w':World}(h:Fr p w w')(hq:∀b,b<w.heap.size->q b->p b):Fr q w w':=⟨h.os,h.out,h.size,λb hb hp=>h.keep b hb (hq b hb hp)⟩
def Fr.alloc(p:Nat->Prop)(w:World)(o:Obj):Fr p w (w.alloc o):=⟨rfl,rfl,by simp,λb hb _=>Below.heap_alloc w o b hb⟩
def Fr.putObj{p:Nat->Prop}(w:World)(l:Nat)(o:Obj)(hl:¬p l):Fr p w (w.putObj l o):=
 ⟨rfl,rfl,by simp,λb _ hp=>CM (λe=>hl (e▸hp))⟩
def Fr.setCell{p:Nat->Prop}(w:World)(a:Addr)(v:Value)(hl:¬p a.block):Fr p w (w.setCell a v):=
 ⟨rfl,rfl,by simp[World.setCell],λb _ hp=>Below.heap_setCell w a v b (λe=>hl (e▸hp))⟩
structure Rd(bo l:Nat)(J:Nat->Option Nat->World->Prop)(k:Nat)(g:Option Nat)(W W':World):Prop where
 ex:∃g',J (k+1) g' W'/\(g'=g\/∃x,g'=some x/\W.heap.size<=x/\x<W'.heap.size)/\Fr (λb=>b≠bo/\b≠l/\some b≠g) W W'
def SeqE(n:Nat)(P:Program)(gf:Nat)(lb:Array Value)(enc:Nat->Array Value)(bo:Nat)(Hs:Nat->World->Prop)(N:Nat):Prop:=
 ∀(l:Nat) (J:Nat->Option Nat->World->Prop) (W:World),l<W.heap.size->bo<l->
  (∀k g W1 W2,J k g W1->Fr (λ_=>True) W1 W2->J k g W2)->
  (∀k g W1,J k g W1->k<N->YieldAt Fence.wide (n - 1) P l (enc k) W1 λe W'=>e=.returned (.bool true)/\Rd bo l J k g W1 W')->
  J 0 none W->Hs l W->
  CallsIn Fence.wide n P gf (#[.func (.yield l) #[] #[]]++lb) W λe W'=>(∃v,e=.returned v)/\∃g,J N g W'
def rngPost(bo:Nat)(I:Nat->Option Nat->World->Prop)(k:Nat)(g:Option Nat)(W:World):Exit->Act->World->Prop
 |.normal,_,W'=>∃g',I (k+1) g' W'/\(g'=g\/∃x,g'=some x/\W.heap.size<=x/\x<W'.heap.size)/\Fr (λb=>b≠bo/\some b≠g) W W'
 |_,_,_=>False
def rng_law{P:Program}{n:Nat}{g:Operand}{ps:Array Tmp}{assign body:Code}{Q:Exit->Act->World->Prop}{a:Act}{w:World}
  {gf:Nat} {lb:Array Value} (hg:a.eval g=.func (.func gf) #[] lb) (eg:∀args w,(callFunc gf args).run P w=.ok (.enter gf args) w)
  {enc:Nat->Array Value} {bo:Nat} (hbo:bo<w.heap.size) {Hs:Nat->World->Prop} {N:Nat} (hseq:SeqE (n - 1) P gf lb enc bo Hs N) (hps:∀k,(enc k).size=ps.size)
  (I:Nat->Option Nat->World->Prop)
  (hI:∀k g W W',I k g W->Fr (λb=>b≠w.heap.size/\b≠w.heap.size+1) W W'->I k g W') (hIg:∀k b W,I k (some b) W->b≠w.heap.size/\b≠w.heap.size+1) (h0:I 0 none w)
  (hH:∀W,Fr (λ_=>True) w W->Hs (w.heap.size+1) W) (Ax:Nat->Act->World->Prop)
  (hAx:∀k a' W W',Ax k a' W->Fr (λb=>b≠w.heap.size/\b≠w.heap.size+1) W W'->Ax k a' W')
  (hassign:∀(l k:Nat) (g:Option Nat) (W:World) (K:Act->World->Prop),I k g W->k<N->w.heap.size+2<=W.heap.size->(∀a' W',Ax k a' W'->Fr (λ_=>True) W W'->K a' W')->
   assign.wpIn (Fence.wide.inRound l) (n - 1 - 1) P (Exit.then K (λ_ _ _=>False)) { tmps:=(ps.zip (enc k)).foldl (λt (p,v)=>t.setIfInBounds p v) a.tmps,defers:=[] } W)
  (hbody:∀(l k:Nat) (g:Option Nat) (a':Act) (W:World),I k g W->Ax k a' W->k<N->w.heap.size+2<=W.heap.size->body.wpIn (Fence.wide.inRound l) (n - 1 - 1) P (rngPost bo I k g W) a' W)
  (hdone:∀(D:Nat) (g:Option Nat) (W:World),w.heap.size<=D->I N g W->W.heap[D]? =some (.deferred (some []))->Q .normal { a with defers:={ target:=.collected D,args:= #[] }::a.defers } W):
  (Code.rangeFunc g ps assign body).wpIn Fence.wide n P Q a w:=by
 refine wpIn_rangeFunc ?_;intro fn hfn;obtain⟨rec,hrec⟩:∃rec:LoopState->Option Code->Loop,rec=λst pe=>{ state:=st,pending:=pe,fn,tmps:=a.tmps,params:=ps,assign,body,defers:=w.heap.size }:=⟨_,rfl⟩;obtain⟨W1,hW1⟩:∃W1,(w.alloc (.deferred (some []))).alloc (.loop (rec .ready none))=W1:=⟨_,rfl⟩;have hL1:W1.heap[w.heap.size+1]? =some (.loop (rec .ready none)):=by rw[<-hW1];have:=AQ (w.alloc (.deferred (some []))) (.loop (rec .ready none));rwa [Am]at this
 have hK1:W1.heap[w.heap.size]? =some (.deferred (some [])):=by rw[<-hW1];exact(Below.heap_alloc _ _ _ (by simp)).trans (AQ w _)
 have hF1:∀p,Fr p w W1:=λp=>by rw[<-hW1];exact(Fr.alloc p _ _).trans (Fr.alloc p _ _)
 have hput:∀(W:World) (q:Obj),Fr (λb=>b≠w.heap.size/\b≠w.heap.size+1) W (W.putObj (w.heap.size+1) q):=λW q=>Fr.putObj _ _ _ (λh=>h.2 rfl)
 refine⟨w.heap.size+1,[{ target:=.collected w.heap.size,args:= #[] }],W1,{ target:=.fn (.func gf) lb,args:= #[.func (.yield (w.heap.size+1)) #[] #[]] },W1,gf,
  #[.func (.yield (w.heap.size+1)) #[] #[]]++lb,W1,?_,?_,?_,?_,λh=>(by cases h),?_⟩
 ·rw[<-hW1,hrec];exact run_enterLoop_outer _ _ _ _ _
 ·simp only[resolve,hg];simp[go_sem]
 ·intro f' hf';trivial
 ·simp[invoke,go_sem,eg]
 ·refine(hseq (w.heap.size+1)
   (λk g W=>I k g W/\W.heap[w.heap.size+1]? =some (.loop (rec .ready none))/\W.heap[w.heap.size]? =some (.deferred (some [])))
   W1 (A8.1 hL1).1 (by omega)
   (λk g A B hs hf=>⟨hI k g A B hs.1 (hf.imp λb _ _=>trivial),(hf.keep _ (A8.1 hs.2.1).1 trivial).trans hs.2.1,(hf.keep _ (A8.1 hs.2.2).1 trivial).trans hs.2.2⟩)
   ?_ ⟨hI _ _ _ _ h0 (hF1 _),hL1,hK1⟩ (hH _ (hF1 _))).mono ?_
  ·rintro k g W ⟨hi,hl,hk⟩ hlen;have hlt:w.heap.size+1<W.heap.size:=(A8.1 hl).1;have hy:=run_yield (P:=P) (args:=enc k) hl (by rw[hrec];exact hps k);rw[hrec]at hy;refine⟨fn,_,assign,body,hy,roundIn_of_wpIn hfn (hassign _ k g W _ hi hlen (by omega) λa' Wa hax hfa=>⟨_,run_beginRound ((hfa.keep _ hlt trivial).trans hl) (by rw[hrec]),?_⟩)⟩;have hla:=(hfa.keep _ hlt trivial).trans hl;have hka:=(hfa.keep _ (by omega) trivial).trans hk;have hia:=hI _ _ _ _ hi (hfa.imp λ_ _ _=>trivial);have hlta:w.heap.size+1<Wa.heap.size:=Bl hlt hfa.size;have hl2:(Wa.putObj (w.heap.size+1) (.loop { rec .ready none with state:=.busy })).heap[w.heap.size+1]? =some (.loop { rec .ready none with state:=.busy }):=World.putObj_heap_same hlta;have hk2:(Wa.putObj (w.heap.size+1) (.loop { rec .ready none with state:=.busy })).heap[w.heap.size]? =some (.deferred (some [])):=(CM (by omega)).trans hka;refine C3 (hbody _ k g a' _ (hI _ _ _ _ hia (hput _ _)) (hAx _ _ _ _ hax (hput _ _)) hlen (by simp;omega)) ?_;rintro e a3 W3 hp
   cases e with
   |normal=>
    obtain⟨g',hi3,hg3,hk3⟩:=hp;have hgl:∀b,g=some b->b≠w.heap.size/\b≠w.heap.size+1:=λb e=>hIg k b W (e▸hi);have hl3:=(hk3.keep (w.heap.size+1) (by simp;omega) ⟨by omega,λe=>(hgl _ e.symm).2 rfl⟩).trans hl2;have hd3:=(hk3.keep w.heap.size (by simp;omega) ⟨by omega,λe=>(hgl _ e.symm).1 rfl⟩).trans hk2;have hr:=run_endRound (P:=P) none hl3;rw[hrec]at hr;have hz:Wa.heap.size<=W3.heap.size:=(by have:=hk3.size;simpa using this);have hput2:=hput W3 (.loop (rec .ready none));refine⟨_,_,hr,rfl,⟨g',⟨hI _ _ _ _ hi3 (by rw[hrec]at hput2;exact hput2),?_,?_⟩,?_,?_⟩⟩
    ·rw[hrec];exact World.putObj_heap_same (A8.1 hl3).1
    ·exact(CM (by omega)).trans hd3
    ·rcases hg3 with h|⟨x,h1,h2,h3⟩
     ·exact .inl h
     ·refine .inr ⟨x,h1,?_,by simpa using h3⟩;have:=hfa.size;simp at h2;omega
    ·have f1:Fr (λb=>b≠bo/\b≠w.heap.size+1/\some b≠g) W Wa:=hfa.imp λ_ _ _=>trivial;have f2:Fr (λb=>b≠bo/\b≠w.heap.size+1/\some b≠g) Wa _:=Fr.putObj Wa (w.heap.size+1) (.loop { rec .ready none with state:=.busy }) (λh=>h.2.1 rfl);have f3:Fr (λb=>b≠bo/\b≠w.heap.size+1/\some b≠g) _ W3:=hk3.imp λb _ h=>⟨h.1,h.2.2⟩;exact((f1.trans f2).trans f3).trans (Fr.putObj _ _ _ (λh=>h.2.1 rfl))
   |exit j=>exact hp.elim
   |ret=>exact hp.elim
   |goto t=>exact hp.elim
   |panic ch=>exact hp.elim
   |outgrown=>exact hp.elim
  ·rintro e W2 ⟨⟨v,rfl⟩,g,hi,hl,hk⟩;exact⟨none,_,by have:=run_endLoop (P:=P) hl (by rw[hrec];simp);rw[hrec]at this;exact this,hdone _ _ _ (A5 _) (hI _ _ _ _ hi (hput _ _)) ((CM (by omega)).trans hk)⟩
end Rf
end
section
open Go.RowKit
namespace Rf
attribute [local go_sem] Oper.semAt_some
def sites_walk(n:Nat)(w:World)(v0 v1 v2 v3:Value)(a:Option Addr)(m cap:Nat):CallsIn Fence.wide n prog 25 #[.agg #[v0,v1,v2,v3],.int .u8 0,.slice a m cap] w λe w'=>
  e=.returned (.func (.func 57) #[] #[.pointer (some ⟨w.heap.size+1,0,none⟩),.pointer (some ⟨w.heap.size+1+1,0,none⟩),.pointer (some ⟨w.heap.size,0,none⟩)])/\w'=((w.alloc (.cells #[v0,v1,v2,v3] 34)).alloc (.cells #[.int .u8 0] 42)).alloc (.cells #[.slice a m cap] 95):=by
 refine callsIn_of_wp Tryz.func25 rfl trivial ?_ rfl;simp only[Tryz.ntmps25,List.size_toArray,As,CZ,Nat.reduceAdd,Nat.reduceSub,Array.replicate_succ,Array.replicate_zero,List.push_toArray,List.append_toArray,Bf,CT]
 gi_wp2
 go_ret
 exact⟨rfl,rfl⟩
structure Ss(ln:Nat->Int×Int)(m b4 b5 bl off cap bo l:Nat)(W:World):Prop where
 m4:W.cell? ⟨b4,0,none⟩=some (.int .u8 0)
 m5:W.cell? ⟨b5,0,none⟩=some (.slice (some ⟨bl,off,none⟩) m cap)
 ln:∀i,i<m->W.cell? ⟨bl,off+i*2,none⟩=some (.int .i64 (ln i).1)/\W.cell? ⟨bl,off+i*2+1,none⟩=some (.int .i64 (ln i).2)
 lt:b4<l/\b5<l/\bl<l
 ne:b4≠bo/\b5≠bo/\bl≠bo
def Ss.keep{ln:Nat->Int×Int}{m b4 b5 bl off cap bo l:Nat}{W W':World}{g:Option Nat}(h:Ss ln m b4 b5 bl off cap bo l W)(hl:l<W.heap.size)(hg:∀x,g=some x->l<x)(hf:Fr (λb=>b≠bo/\b≠l/\some b≠g) W W'):Ss ln m b4 b5 bl off cap bo l W':=by obtain⟨p1,p2,p3⟩:=h.lt;obtain⟨q1,q2,q3⟩:=h.ne;have e:∀b,b<l->b≠bo->∀o,W'.cell? ⟨b,o,none⟩=W.cell? ⟨b,o,none⟩:=λb h1 h2 o=>An (hf.keep b (by omega) ⟨h2,by omega,λe=>by have:=hg b e.symm;omega⟩);exact⟨(e _ p1 q1 _).trans h.m4,(e _ p2 q2 _).trans h.m5,λi hi=>⟨(e _ p3 q3 _).trans (h.ln i hi).1,(e _ p3 q3 _).trans (h.ln i hi).2⟩,h.lt,h.ne⟩
def encF(ln:Nat->Int×Int)(k:Nat):Array Value:= #[.agg #[.int .u8 0,.int .i64 (ln (k / 2)).1,.int .i64 (ln (k / 2)).2,.int .u8 ((k%2:Nat):Int),.int .i64 0]]
def sites_seq(n:Nat)(ln:Nat->Int×Int)(m b4 b5 b3 bl off cap bo:Nat)(hm:m<=1000):
  SeqE n prog 57 #[.pointer (some ⟨b4,0,none⟩),.pointer (some ⟨b5,0,none⟩),.pointer (some ⟨b3,0,none⟩)] (encF ln) bo (λl W=>Ss ln m b4 b5 bl off cap bo l W) (2*m):=by
 intro l J W hlW hbl hJ hY h0 hS;show CallsIn Fence.wide n prog 57 #[.func (.yield l) #[] #[],.pointer (some ⟨b4,0,none⟩),.pointer (some ⟨b5,0,none⟩),.pointer (some ⟨b3,0,none⟩)] W _;refine callsIn_of_wp Tryz.func57 rfl trivial ?_ rfl;simp only[Tryz.ntmps57,List.size_toArray,As,CZ,Nat.reduceAdd,Nat.reduceSub,Array.replicate_succ,Array.replicate_zero,List.push_toArray,List.append_toArray,Bf,CT];have hS0:=hS;obtain⟨c4,c5,_,⟨p1,p2,p3⟩,⟨q1,q2,q3⟩⟩:=hS;have p4:b4<W.heap.size:=by omega
 have p5:b5<W.heap.size:=by omega
 gi_wp2
 have hstart:J (2*0) none (W.alloc (.cells #[.func (.yield l) #[] #[]] 161))/\Ss ln m b4 b5 bl off cap bo l (W.alloc (.cells #[.func (.yield l) #[] #[]] 161))/\(W.alloc (.cells #[.func (.yield l) #[] #[]] 161)).heap[W.heap.size]? =some (.cells #[.func (.yield l) #[] #[]] 161 (0,0))/\W.heap.size<(W.alloc (.cells #[.func (.yield l) #[] #[]] 161)).heap.size:=
  ⟨hJ _ _ _ _ h0 (Fr.alloc _ _ _),hS0.keep (g:=none) hlW (λx e=>by cases e) (Fr.alloc _ _ _),AQ _ _,by simp⟩
 clear h0 hS0 c4 c5 p4 p5
 gi_loopw [14] (λp wr=>∃(i:Nat) (g:Option Nat),p=.int .i64 i/\i<=m/\J (2*i) g wr/\Ss ln m b4 b5 bl off cap bo l wr/\wr.heap[W.heap.size]? =some (.cells #[.func (.yield l) #[] #[]] 161 (0,0))/\W.heap.size<wr.heap.size/\(∀x,g=some x->W.heap.size<x/\x<wr.heap.size)) (λp _=>m - (intOf p).toNat)
 case atStart=>exact⟨0,none,rfl,Af _,hstart.1,hstart.2.1,hstart.2.2.1,hstart.2.2.2,λx e=>by cases e⟩
 case round=>
  clear hstart;obtain⟨i,g,rfl,him,hj,hS,hbt,hsz,hgx⟩:=hrel;by_cases hil:i<m
  ·obtain⟨r0,r1⟩:=hS.ln i hil;have p6:bl<wr.heap.size:=(by omega);obtain⟨wa,hwa⟩:∃wa,wr.alloc (.cells #[.int .i64 (ln i).1,.int .i64 (ln i).2] 55)=wa:=⟨_,rfl⟩;have hja:J (2*i) g wa:=hwa▸hJ _ _ _ _ hj (Fr.alloc _ _ _);have hSa:Ss ln m b4 b5 bl off cap bo l wa:=hwa▸hS.keep (g:=g) (by omega) (λx e=>by have:=hgx x e;omega) (Fr.alloc _ _ _);have hbta:wa.heap[W.heap.size]? =some (.cells #[.func (.yield l) #[] #[]] 161 (0,0)):=hwa▸(Below.heap_alloc _ _ _ hsz).trans hbt;have hbxa:wa.heap[wr.heap.size]? =some (.cells #[.int .i64 (ln i).1,.int .i64 (ln i).2] 55 (0,0)):=hwa▸AQ _ _;have hsza:wa.heap.size=wr.heap.size+1:=(by rw[<-hwa];simp);have a4:=hSa.m4;have at4:wa.cell? ⟨W.heap.size,0,none⟩=some (.func (.yield l) #[] #[]):=(by simp[World.cell?,hbta]);have at6:wa.cell? ⟨wr.heap.size,0,none⟩=some (.int .i64 (ln i).1):=(by simp[World.cell?,hbxa]);have at7:wa.cell? ⟨wr.heap.size,1,none⟩=some (.int .i64 (ln i).2):=(by simp[World.cell?,hbxa]);have hyw:=hY (2*i) g wa hja (by omega);have e0:encF ln (2*i)= #[.agg #[.int .u8 0,.int .i64 (ln i).1,.int .i64 (ln i).2,.int .u8 0,.int .i64 0]]:=(by unfold encF;rw[show 2*i / 2=i by omega,show 2*i%2=0 by omega];rfl);rw[e0]at hyw;obtain⟨fn,tmps,assign,body,hy,hR⟩:=hyw;have hx0:∀b,some b=g->b≠W.heap.size/\b≠wr.heap.size:=λb e=>(by have:=hgx b e.symm;omega);have hgx0:∀x,g=some x->W.heap.size<x/\x<wa.heap.size:=λx e=>(by have:=hgx x e;omega);have hgl:∀x,g=some x->l<x:=λx e=>(by have:=hgx x e;omega);have hlwa:l<wa.heap.size:=(by omega);have hbwa:W.heap.size<wa.heap.size:=(by omega);have hxwa:wr.heap.size<wa.heap.size:=(by omega);clear hj hS hbt hgx
   gi_wp2_with fail
   refine⟨λh=>(by cases h),hR.mono ?_⟩;rintro e W3 ⟨rfl,g1,hj1,hg1,hf1⟩;clear hwa;have hS3:=hSa.keep hlwa hgl hf1;have hbt3:=(hf1.keep W.heap.size hbwa ⟨by omega,by omega,λe=>(hx0 _ e).1 rfl⟩).trans hbta;have hbx3:=(hf1.keep wr.heap.size hxwa ⟨by omega,by omega,λe=>(hx0 _ e).2 rfl⟩).trans hbxa;have hs3:=hf1.size;have hg1l:∀x,g1=some x->W.heap.size<x/\x<W3.heap.size:=λx e=>by
    rcases hg1 with h|⟨y,h1,h2,h3⟩
    ·have:=hgx0 x (h▸e);omega
    ·rw[e]at h1;injection h1 with h1;omega
   clear hR hy at4 at6 at7 a4 hf1 hg1 hSa hbta hbxa hja;have a4:=hS3.m4;have at4:W3.cell? ⟨W.heap.size,0,none⟩=some (.func (.yield l) #[] #[]):=(by simp[World.cell?,hbt3]);have at6:W3.cell? ⟨wr.heap.size,0,none⟩=some (.int .i64 (ln i).1):=(by simp[World.cell?,hbx3]);have at7:W3.cell? ⟨wr.heap.size,1,none⟩=some (.int .i64 (ln i).2):=(by simp[World.cell?,hbx3]);have hyw:=hY (2*i+1) g1 W3 hj1 (by omega);have e1:encF ln (2*i+1)= #[.agg #[.int .u8 0,.int .i64 (ln i).1,.int .i64 (ln i).2,.int .u8 1,.int .i64 0]]:=(by unfold encF;rw[show(2*i+1) / 2=i by omega,show(2*i+1)%2=1 by omega];rfl);rw[e1]at hyw;obtain⟨fn2,tmps2,assign2,body2,hy,hR⟩:=hyw
   gi_wp2_with fail
   refine⟨λh=>(by cases h),hR.mono ?_⟩;rintro e W4 ⟨rfl,g2,hj2,hg2,hf2⟩;have hS4:=hS3.keep (by omega) (λx e=>by have:=hg1l x e;omega) hf2;have hbt4:=(hf2.keep W.heap.size (by omega) ⟨by omega,by omega,λe=>by have:=hg1l _ e.symm;omega⟩).trans hbt3;have hs4:=hf2.size;have hg2l:∀x,g2=some x->W.heap.size<x/\x<W4.heap.size:=λx e=>by
    rcases hg2 with h|⟨y,h1,h2,h3⟩
    ·have:=hg1l x (h▸e);omega
    ·rw[e]at h1;injection h1 with h1;omega
   clear hR hy at4 at6 at7 a4 hf2 hg2 hS3 hbt3 hbx3 hj1
   gi_wp2_with fail
   go_roundw
   case rel=>exact⟨i+1,g2,by simp[IntKind.wrap,IntKind.signed,IntKind.bits,intOf]<;>omega,by omega,hj2,hS4,hbt4,by omega,hg2l⟩
   case measure=>simp[IntKind.wrap,IntKind.signed,IntKind.bits,intOf]<;>omega
  ·have him':i=m:=(by omega);rw[him']at hj;clear him'
   gi_wp2
   refine BO (results_none rfl _ _ _) rfl ?_;exact⟨⟨_,rfl⟩,g,hj⟩
end Rf
end
section
open Go.RowKit
def bad(r:Nat):Bool:=decide (r<=32)||(decide (126<r)||decide (0<=Lib.indexByte [40,41,61,44,35] r.toUInt8))
def bad_walk(w:World)(r:Nat):Calls prog 178 #[.int .i32 r] w λe w'=>e=.returned (.bool (bad r))/\w'=w:=by
 by_cases h1:(r:Int)<=32
 ·have e0:bad r=true:=(by unfold bad;simp;omega);rw[e0]
  go_enter Tryz.func178,Tryz.ntmps178
  go_wp2
  exact BO (results_tmp rfl _ _ _) rfl ⟨rfl,rfl⟩
 ·by_cases h2:(126:Int)<r
  ·have e0:bad r=true:=(by unfold bad;simp;omega);rw[e0]
   go_enter Tryz.func178,Tryz.ntmps178
   go_wp2
   exact BO (results_tmp rfl _ _ _) rfl ⟨rfl,rfl⟩
  ·have e0:bad r=decide (0<=Lib.indexByte [40,41,61,44,35] (r:Int).toNat.toUInt8):=(by have f1:decide (r<=32)=false:=AM (by omega);have f2:decide (126<r)=false:=AM (by omega);unfold bad;rw[f1,f2,AA,Bool.false_or,Bool.false_or]);rw[e0];have hr:=λw=>Any.strings_ContainsRune_ascii Tryz.lays151 ⟨#[40,41,61,44,35]⟩ r w (by omega) (by omega)
   change∀w,Calls prog 179 _ _ _ at hr
   obtain⟨b,hb⟩:∃b,decide (0<=Lib.indexByte [40,41,61,44,35] (r:Int).toNat.toUInt8)=b:=⟨_,rfl⟩;have hr:∀w,Calls prog 179 #[.string ⟨#[40,41,61,44,35]⟩,.int .i32 r] w λe w'=>e=.returned (.bool b)/\w'=w:=λw=>(hr w).mono λe w' h=>(by rw[<-hb];exact h);rw[hb]
   go_enter Tryz.func178,Tryz.ntmps178
   go_wp2_with (go_at_call 179;refine(hr _).mono ?_;rintro e w' ⟨rfl,rfl⟩)
   exact BO (results_tmp rfl _ _ _) rfl ⟨rfl,rfl⟩
def enters178:∀args w,(callFunc 178 args).run prog w=.ok (.enter 178 args) w:=enters_of Tryz.func178 (by kernel_rfl) rfl
def contains_bad(s:ByteArray)(w:World):Calls prog 180 #[.string s,.func (.func 178) #[] #[]] w λe w'=>e=.returned (.bool (decide (0<=Lib.idxFunc bad true s)))/\Below w.heap.size w w':=
 Any.strings_ContainsFunc Tryz.laysGw17 178 #[] enters178 bad s w λW r _=>(bad_walk W r).mono λe w' ⟨h1,h2⟩=>⟨h1,0,h2⟩
def isName_walk(s:ByteArray)(w:World)(h0:s.toList.isEmpty=false)(h1:s.size<=32)(hb:Lib.idxFunc bad true s= -1):Calls prog 166 #[.string s] w λe w'=>e=.returned (.bool true)/\Below w.heap.size w w':=by
 have hc:=contains_bad s;rw[hb]at hc;have e2:(s.size:Int)<=32:=by omega
 go_enter Tryz.func166,Tryz.ntmps166
 go_wp2_with (go_at_call 180;refine(hc _).mono ?_;rintro e w' ⟨rfl,hB⟩)
 exact BO (results_tmp rfl _ _ _) rfl ⟨rfl,hB⟩
def nm_good(i:Nat)(hi:i<20):Lib.idxFunc bad true ⟨(M52.nm i).toArray⟩= -1/\(⟨(M52.nm i).toArray⟩:ByteArray).toList.isEmpty=false:=by
 have e:i=0\/i=1\/i=2\/i=3\/i=4\/i=5\/i=6\/i=7\/i=8\/i=9\/i=10\/i=11\/i=12\/i=13\/i=14\/i=15\/i=16\/i=17\/i=18\/i=19:=by omega
 clear hi;rcases e with rfl|rfl|rfl|rfl|rfl|rfl|rfl|rfl|rfl|rfl|rfl|rfl|rfl|rfl|rfl|rfl|rfl|rfl|rfl|rfl<;>exact⟨by decide+kernel,by decide+kernel⟩
def isName_nm(i:Nat)(hi:i<20)(w:World):Calls prog 166 #[.string ⟨(M52.nm i).toArray⟩] w λe w'=>e=.returned (.bool true)/\Below w.heap.size w w':=
 isName_walk _ w (nm_good i hi).2 (by show 3<=32;omega) (nm_good i hi).1
end
section
open Go.RowKit Go.Maps Go.WideMaps
namespace Nm
def Bel.grown{B b:Nat}{w w1 w2:World}(h:Aw.Bel B w w1)(hg:w1.grownBy w2 (some b))(hB:B<=w.heap.size)(hb:B<=b):Aw.Bel B w w2:=
 h.trans ⟨hg.os,hg.output,hg.size,λk hk=>hg.block k (Bl hk (Ao hB h.size)) (λe=>by cases e;omega)⟩
def Bel.map{P:Program}{k:TypeId}{R:Value->Option (DataW Unit×List MemPlace)}{b n:Nat}{D:DataW Unit}{w w':World}(h:Below w.heap.size w w')(ho:w.ownsMap P k R b n D):w'.ownsMap P k R b n D:=by have hlt:=ho.lt;obtain⟨es,clock,hb,F,hs,hD⟩:=ho;exact⟨es,clock,(h.block b hlt).trans hb,F,hs,hD⟩
def Dk(nm:Nat->List UInt8):Nat->DataW Unit
 |0=>.map []
 |k+1=>(Dk nm k).put (.string (nm k)) (.lit (.bool true))
structure Good(nm:Nat->List UInt8)(n:Nat):Prop where
 len:∀k,k<n->(nm k).length<=32
 name:∀k,k<n->∀w:World,Calls prog 166 #[.string ⟨(nm k).toArray⟩] w λe w'=>e=.returned (.bool true)/\Below w.heap.size w w'
 seen:∀k,k<n->(Dk nm k).atKey (.string (nm k)) (.lit (.bool false))=.lit (.bool false)
def law9:Keyed prog 9:=string_keyed Tryz.underlying9
def zero4(w:World):(zeroValue 4).run prog w=.ok (.bool false) w:=by kernel_rfl
def und277:prog.underlying 277=some (.map 9 4):=by kernel_rfl
def key_ok{s:List UInt8}(h:s.length<=32):keyOf prog 9 (.string ⟨s.toArray⟩)=some (.string s):=by
 exact keyOf_string_mk (s:=⟨s.toArray⟩) Tryz.underlying9 (by
  show s.toArray.size<=maxLen;unfold maxLen;simp;omega)
def good_nm{n:Nat}(hn:n<=20):Good M52.nm n where
 len:=λk _=>by show 3<=32;omega
 name:=λk hk w=>isName_nm k (by omega) w
 seen:=by intro i hi;have hi:i<20:=(by omega);have e:i=0\/i=1\/i=2\/i=3\/i=4\/i=5\/i=6\/i=7\/i=8\/i=9\/i=10\/i=11\/i=12\/i=13\/i=14\/i=15\/i=16\/i=17\/i=18\/i=19:=(by omega);clear hi;rcases e with rfl|rfl|rfl|rfl|rfl|rfl|rfl|rfl|rfl|rfl|rfl|rfl|rfl|rfl|rfl|rfl|rfl|rfl|rfl|rfl<;>(show @Eq (DataW Unit) _ _;kernel_rfl)
def nmA(i:Nat):List UInt8:=[(([97,98,100,101]:List UInt8)[i]?).getD 0]
def nmB(i:Nat):List UInt8:=[(([97,98,121]:List UInt8)[i]?).getD 0]
def good_A:Good nmA 4 where
 len:=λk _=>by show 1<=32;omega
 name:=λk hk w=>by have e:k=0\/k=1\/k=2\/k=3:=(by omega);clear hk;rcases e with rfl|rfl|rfl|rfl<;>exact isName_walk _ w (by decide+kernel) (by show 1<=32;omega) (by decide+kernel)
 seen:=by intro k hk;have e:k=0\/k=1\/k=2\/k=3:=(by omega);clear hk;rcases e with rfl|rfl|rfl|rfl<;>(show @Eq (DataW Unit) _ _;kernel_rfl)
def good_B:Good nmB 3 where
 len:=λk _=>by show 1<=32;omega
 name:=λk hk w=>by have e:k=0\/k=1\/k=2:=(by omega);clear hk;rcases e with rfl|rfl|rfl<;>exact isName_walk _ w (by decide+kernel) (by show 1<=32;omega) (by decide+kernel)
 seen:=by intro k hk;have e:k=0\/k=1\/k=2:=(by omega);clear hk;rcases e with rfl|rfl|rfl<;>(show @Eq (DataW Unit) _ _;kernel_rfl)
def bool_inv{v:Value}{ps:List MemPlace}{x:Bool}(h:plainElem (H:=Unit) prog 4 v=some (.lit (.bool x),ps)):v=.bool x:=by unfold plainElem at h;rw[Tryz.underlying4]at h;cases v<;>simp at h;rw[h.1]
def names_walk(nm:Nat->List UInt8)(vn vm vo:Value)(b off n cap:Nat)(w:World)(hn:n<=20)(hG:Good nm n)(hb:b<w.heap.size)(hc:∀j,j<n->w.cell? ⟨b,off+j,none⟩=some (.string ⟨(nm j).toArray⟩)):
  Calls prog 143 #[.agg #[vn,.slice (some ⟨b,off,none⟩) n cap,vm,vo]] w λe w'=>e=.returned (.int .i64 0)/\Aw.Bel w.heap.size w w':=by
 have hmm:=@run_makeMap prog
 go_enter Tryz.func143,Tryz.ntmps143
 go_wp2
 go_loopw [10] (λi wr=>∃k:Nat,k<=n/\i=.int .i64 k/\wr.ownsMap prog 9 (plainElem (H:=Unit) prog 4) (w.heap.size+1) k (Dk nm k)/\Aw.Bel w.heap.size w wr)
  (λi _=>20 - (intOf i).toNat)
 case atStart=>exact⟨0,Af _,rfl,(by have:=Cp (w.alloc (Obj.cells #[vn,Value.slice (some ⟨b,off,none⟩) n cap,vm,vo] 34)) prog 9 (plainElem (H:=Unit) prog 4);simp only[Am]at this;exact this),(Aw.Bel.alloc _ (A5 _)).trans (Aw.Bel.alloc _ (by simp))⟩
 case round=>
  obtain⟨k,hk,rfl,hown,hnx⟩:=hrel;have hsz:=hnx.size;by_cases hlt:k<n
  ·have hcell:wr.cell? ⟨b,off+k,none⟩=some (.string ⟨(nm k).toArray⟩):=by rw[<-hc k hlt];simp only[World.cell?,hnx.block b hb]
   go_wp2_with (go_at_call 166;refine(hG.name k hlt _).mono ?_)
   rintro e w1 ⟨rfl,hb1⟩;have hown1:=Bel.map hb1 hown;obtain⟨v,ps,hrun,hv⟩:=hown1.lookup law9 und277 (zero4 _) (Ch (H:=Unit) Tryz.underlying4 false) (key_ok (hG.len k hlt));rw[hG.seen k hlt]at hv;obtain rfl:=bool_inv hv;have hB1:Aw.Bel w.heap.size w w1:=hnx.trans ⟨hb1.os,hb1.output,hb1.size,λj hj=>hb1.block j (by omega)⟩;have hkey:=key_ok (hG.len k hlt)
   go_wp2_with (first
    |(at_mapUpdate;refine Cg _ rfl _ _ _ 277 rfl 9 4 law9 und277 (plainElem (H:=Unit) prog 4) (w.heap.size+1) k _ rfl hown1 (by unfold maxLen;omega) _ _ _ rfl rfl hkey _ [] (Ch Tryz.underlying4 true) ?_;intro w5 hown5 hgrow5)
    |go_in)
   go_roundw
   case rel=>exact⟨k+1,by omega,by go_num,hown5,Bel.grown hB1 hgrow5 (A5 _) (by omega)⟩
   case measure=>simp[intOf];omega
  ·have:k=n:=(by omega);subst this
   go_wp2
   go_ret
   exact⟨rfl,hnx⟩
end Nm
end
def fl_str:∀l:List (List UInt8),l.flatMap (Ly.trees .str)=l.map T.str
 |[]=>rfl
 |a::l=>by rw[Ac,AY,fl_str l];rfl
namespace M143
structure gX where(Q0:List ((Int)×(List (Int))×(Int)×Int))(Q1:List (List UInt8))(Q4:List ((List (Int))×(List (Int))×Int))(Q3:List (Int))
def g:Sg gX:=⟨[.agg cir4],[],λa b=>⟨a.1.1,a.1.2.1,a.1.2.2.1,a.1.2.2.2.1⟩,λx=>((x.Q0,(x.Q1,(x.Q4,(x.Q3,())))),()),λx=>()⟩
abbrev fY:=Int
def f:Ft fY:=⟨none,cI,[],λa b=>(a),λy=>y,λy=>()⟩
def m(x:gX):Option fY:=if (x.Q1=(List.range x.Q1.length).map M52.nm/\1<=x.Q1.length/\x.Q1.length<=20)\/x.Q1=[[97],[98],[100],[101]]\/x.Q1=[[97],[98],[121]] then some 0 else none
def callable143:Xn prog 143:=⟨Tryz.f143,Tryz.func143,by kernel_rfl,by kernel_rfl⟩
def fn_of(nm:Nat->List UInt8){Q0:List ((Int)×(List (Int))×(Int)×Int)}{Q1:List (List UInt8)}{Q4:List ((List (Int))×(List (Int))×Int)}{Q3:List (Int)}(hnm:Q1=(List.range Q1.length).map nm)(h1:1<=Q1.length)(h20:Q1.length<=20)(hG:Nm.Good nm Q1.length):Jw prog 143 ((g.A ⟨Q0,Q1,Q4,Q3⟩).map SV.den) [] λu τ=>u=.c (.t (.int .i64 0))/\τ=[]:=by
 refine Aw.fn_bel callable143 λO w cargs hg hH ha=>⟨.int .i64 0,λw'=>TR.int _ _,?_⟩;obtain⟨u,e0,arr,rfl,hsz,hv⟩:=ha.2 0 Nat.one_pos;have hsz:arr.size=4:=hsz;obtain⟨v0,q0,_⟩:=hv 0 (show 0<4 by omega);obtain⟨v1,q1,t1⟩:=hv 1 (show 1<4 by omega);obtain⟨v2,q2,_⟩:=hv 2 (show 2<4 by omega);obtain⟨v3,q3,_⟩:=hv 3 (show 3<4 by omega);have harr:arr= #[v0,v1,v2,v3]:=by
  refine Cc (by rw[hsz];rfl) λj hj _=> ?_;have hj:j<4:=(by omega);rcases (show j=0\/j=1\/j=2\/j=3 by omega) with rfl|rfl|rfl|rfl
  ·exact(A8.1 q0).2
  ·exact(A8.1 q1).2
  ·exact(A8.1 q2).2
  ·exact(A8.1 q3).2
 have hc:cargs= #[.agg #[v0,v1,v2,v3]]:=by have h1:cargs.size=1:=ha.1;refine Cc h1 λj hj _=> ?_;obtain rfl:j=0:=(by omega);rw[<-harr];exact(A8.1 e0).2
 have t1:TR O.un w (.imm (Q1.flatMap (Ly.trees .str)) Q1.length none) v1:=t1;rw[fl_str]at t1;rw[hc];generalize hl:Q1.length=n at*
 generalize hcs:Q1.map T.str=cs at t1
 cases t1 with
 |imm0=>omega
 |imm cs len cap b off c fv hU hrow hcap hle hcells hT=>subst hcs;refine Nm.names_walk nm v0 v2 v3 b off n c w h20 hG hrow.lt λj hj=> ?_;have hj':j<(Q1.map T.str).length:=(by rw[AE,hl];exact hj);have h5:=hT j hj';have e5:(Q1.map T.str)[j]=T.str (nm j):=(by rw[AP];congr 1;have:Q1[j]'(by rw[hl];exact hj)=((List.range n).map nm)[j]'(by simp;exact hj):=(by congr 1);rw[this];simp);rw[e5]at h5;rw[hcells j hj'];generalize fv j=z at h5;cases h5;rfl
def known:QQ prog 143 g f m:=by
 refine⟨λ_ _=>⟨rfl,rfl⟩,by decide,λ⟨Q0,Q1,Q4,Q3⟩ y h=> ?_⟩;by_cases hk:(Q1=(List.range Q1.length).map M52.nm/\1<=Q1.length/\Q1.length<=20)\/Q1=[[97],[98],[100],[101]]\/Q1=[[97],[98],[121]]
 ·have h:(if (Q1=(List.range Q1.length).map M52.nm/\1<=Q1.length/\Q1.length<=20)\/Q1=[[97],[98],[100],[101]]\/Q1=[[97],[98],[121]] then some 0 else none)=some y:=h;rw[AC hk]at h;obtain rfl:=BA h;rcases hk with ⟨hnm,h1,h20⟩|rfl|rfl
  ·exact fn_of M52.nm hnm h1 h20 (Nm.good_nm h20)
  ·exact fn_of Nm.nmA rfl (by decide) (by decide) Nm.good_A
  ·exact fn_of Nm.nmB rfl (by decide) (by decide) Nm.good_B
 ·have h:(if (Q1=(List.range Q1.length).map M52.nm/\1<=Q1.length/\Q1.length<=20)\/Q1=[[97],[98],[100],[101]]\/Q1=[[97],[98],[121]] then some 0 else none)=some y:=h;rw[AK hk]at h;cases h
end M143
section
open Go.RowKit
abbrev NodeT:=Int×List Int×Int×Int
def pinsOf(n:Nat)(i:Nat):List Int->Nat->List (Int×Int)
 |[],_=>[]
 |a::r,k=>if a=(n:Int) then ((i:Int),(k:Int))::pinsOf n i r (k+1) else pinsOf n i r (k+1)
def readers(n:Nat):List NodeT->Nat->List (Int×Int)
 |[],_=>[]
 |x::r,i=>pinsOf n i x.2.1 0++readers n r (i+1)
namespace Fo
def pinsOf_snoc(j i:Nat)(a:Int):∀(l:List Int) (k:Nat),pinsOf j i (l++[a]) k=pinsOf j i l k++if a=(j:Int) then [((i:Int),((k+l.length:Nat):Int))] else []
 |[],k=>by simp only[Bf,pinsOf,CZ,BK]
 |b::l,k=>by have ih:=pinsOf_snoc j i a l (k+1);simp only[CT,pinsOf,As];rw[ih,show k+1+l.length=k+(l.length+1) by omega];split<;>simp
def readers_snoc(j:Nat)(x:NodeT):∀(r:List NodeT) (i:Nat),readers j (r++[x]) i=readers j r i++pinsOf j (i+r.length) x.2.1 0
 |[],i=>by simp[readers]
 |y::r,i=>by have ih:=readers_snoc j x r (i+1);simp only[CT,readers,As];rw[ih,show i+1+r.length=i+(r.length+1) by omega,Ad]
def lnC(L:List (Int×Int)):List Value:=L.flatMap λe=>[.int .i64 e.1,.int .i64 e.2]
def lnC_snoc(L:List (Int×Int))(a b:Int):lnC (L++[(a,b)])=lnC L++[.int .i64 a,.int .i64 b]:=by simp[lnC]
def own_keep{W W':World}{lo e n s:Nat}{v:Value}{xs:List Value}(h:W.ownsRow lo e s v n xs)(hk:∀g,v.ownBlock=some g->W'.heap[g]? =W.heap[g]?):W'.ownsRow lo e s v n xs:=by
 refine⟨h.1,?_⟩;rcases h.2 with h|⟨g,cap,cur,rfl,g2,g3,g4⟩
 ·exact .inl h
 ·exact .inr ⟨g,cap,cur,rfl,g2,(hk g rfl).trans g3,g4⟩
def own_ne{W:World}{lo e n s g:Nat}{v:Value}{xs:List Value}(h:W.ownsRow lo e s v n xs){cur:Array Value}{e':TypeId}{fr:Nat×Nat}(hg:W.heap[g]? =some (.cells cur e' fr))(he:e≠e'):v.ownBlock≠some g:=by
 rcases h.2 with ⟨rfl,_⟩|⟨g',cap',cur',rfl,g2',g3',_⟩
 ·simp[Value.ownBlock]
 ·intro e1;injection e1 with e1;have e1:g'=g:=e1;rw[e1,hg]at g3';cases g3';exact he rfl
def clip:Value->Value
 |.slice a n _=>.slice a n n
 |v=>v
structure Fan(W:World)(lo g n i:Nat)(rv:Nat->Value)(L:Nat->List (Int×Int)):Prop where
 top:W.heap[g]? =some (.cells ((List.range n).map λj=>if j<i then clip (rv j) else rv j).toArray 95 (0,0))
 low:lo<=g
 row:∀j,j<n->W.ownsRow lo 55 2 (rv j) (L j).length (lnC (L j))
 apart:∀j j',j<n->j'<n->j≠j'->(rv j).ownBlock=none\/(rv j).ownBlock≠(rv j').ownBlock
def Fan.keep{W W':World}{lo g n i:Nat}{rv:Nat->Value}{L:Nat->List (Int×Int)}(h:Fan W lo g n i rv L)(hk:∀b,lo<=b->b<W.heap.size->W'.heap[b]? =W.heap[b]?):Fan W' lo g n i rv L:=
 ⟨(hk g h.low (A8.1 h.top).1).trans h.top,h.low,λj hj=>own_keep (h.row j hj) λb hb=>hk b ((h.row j hj).lt b hb).1 ((h.row j hj).lt b hb).2,h.apart⟩
def Fan.alloc{W:World}{lo g n i:Nat}{rv:Nat->Value}{L:Nat->List (Int×Int)}(h:Fan W lo g n i rv L)(o:Obj):Fan (W.alloc o) lo g n i rv L:=h.keep λb _ hlt=>Below.heap_alloc W o b hlt
def Fan.at{W:World}{lo g n i:Nat}{rv:Nat->Value}{L:Nat->List (Int×Int)}(h:Fan W lo g n i rv L){j:Nat}(hj:j<n):W.cell? ⟨g,j,none⟩=some (if j<i then clip (rv j) else rv j)/\W.frozen? ⟨g,j,none⟩=false:=by refine⟨?_,by simp[World.frozen?,h.top]⟩;simp[World.cell?,h.top,hj]
def map_upd(n j:Nat)(f f':Nat->Value)(v:Value)(hv:f' j=v)(hf:∀k,k≠j->f' k=f k):((List.range n).map f).toArray.setIfInBounds j v=((List.range n).map f').toArray:=by
 refine Cc (by simp) λk h1 h2=> ?_;have hk:k<((List.range n).map f).toArray.size:=by simpa using h1
 rw[Array.getElem_setIfInBounds hk];by_cases e:j=k
 ·subst e;rw[AC rfl];simp[hv]
 ·rw[AK e];simp[hf k (λh=>e h.symm)]
def Fan.step{W W1:World}{lo g n:Nat}{rv:Nat->Value}{L:Nat->List (Int×Int)}(h:Fan W lo g n 0 rv L){j:Nat}(hj:j<n){v':Value}{a b:Int}
  (ho:W1.ownsRow lo 55 2 v' ((L j).length+1) (lnC (L j)++[.int .i64 a,.int .i64 b])) (hg:W.grownBy W1 (rv j).ownBlock) (hat:v'.ownBlock=(rv j).ownBlock\/v'.ownBlock=some W.heap.size):
  Fan (W1.setCell ⟨g,j,none⟩ v') lo g n 0 (λk=>if k=j then v' else rv k) (λk=>if k=j then L j++[(a,b)] else L k):=by
 have hgl:=(A8.1 h.top).1;have hne:=own_ne (h.row j hj) h.top (by decide);have htop:W1.heap[g]? =some (.cells ((List.range n).map λj=>if j<0 then clip (rv j) else rv j).toArray 95 (0,0)):=(hg.block g hgl (λe=>hne e.symm)).trans h.top;have hk:∀c,c≠g->(W1.setCell ⟨g,j,none⟩ v').heap[c]? =W1.heap[c]? :=λc hc=>Below.heap_setCell W1 _ _ _ hc;have hvne:v'.ownBlock≠some g:=own_ne ho htop (by decide);refine⟨?_,h.low,λk hk'=> ?_,λk k' hk1 hk2 hne'=> ?_⟩
 ·have:=C1 _ _ j _ _ v' htop;rw[this,map_upd n j _ (λk=>if k<0 then clip (if k=j then v' else rv k) else (if k=j then v' else rv k)) v' (by simp) (λk hk=>by simp[hk])]
 ·by_cases e:k=j
  ·subst e;simp only[Aq];rw[lnC_snoc,AG];exact own_keep ho λc hc=>hk c λe=>hvne (by rw[hc,e])
  ·simp only[AK e];have h1:=(h.row k hk').kept hg (h.apart k j hk' hj e);exact own_keep h1 λc hc=>hk c λe=>own_ne (h.row k hk') h.top (by decide) (by rw[hc,e])
 ·have new:∀k,k<n->k≠j->(v'.ownBlock=none\/v'.ownBlock≠(rv k).ownBlock)/\((rv k).ownBlock=none\/(rv k).ownBlock≠v'.ownBlock):=λk hk1 hkj=>by
   rcases hat with hat|hat
   ·rw[hat];exact⟨h.apart j k hj hk1 (λe=>hkj e.symm),h.apart k j hk1 hj hkj⟩
   ·have:(rv k).ownBlock≠some W.heap.size:=λe=>(by have:=((h.row k hk1).lt _ e).2;omega);rw[hat];exact⟨.inr (λe=>this e.symm),.inr this⟩
  by_cases e:k=j
  ·subst e;rw[AC rfl,AK (λe:k'=k=>hne' e.symm)];exact(new k' hk2 (λe=>hne' e.symm)).1
  ·by_cases e':k'=j
   ·subst e';simp only[Aq,AK e];exact(new k hk1 e).2
   ·simp only[AK e,AK e'];exact h.apart k k' hk1 hk2 hne'
def Fan.clip1{W:World}{lo g n i:Nat}{rv:Nat->Value}{L:Nat->List (Int×Int)}(h:Fan W lo g n i rv L)(hi:i<n):Fan (W.setCell ⟨g,i,none⟩ (clip (rv i))) lo g n (i+1) rv L:=by
 have hk:∀c,c≠g->(W.setCell ⟨g,i,none⟩ (clip (rv i))).heap[c]? =W.heap[c]? :=λc hc=>Below.heap_setCell W _ _ _ hc;refine⟨?_,h.low,λk hk'=>own_keep (h.row k hk') λc hc=>hk c λe=>own_ne (h.row k hk') h.top (by decide) (by rw[hc,e]),h.apart⟩;have:=C1 _ _ i _ _ (clip (rv i)) h.top;rw[this,map_upd n i _ (λj=>if j<i+1 then clip (rv j) else rv j) (clip (rv i)) (by simp) (λk hk=>by
  by_cases e:k<i
  ·rw[AC e,AC (by omega)]
  ·rw[AK e,AK (by omega)])]
def Fan.slice{W:World}{lo g n i:Nat}{rv:Nat->Value}{L:Nat->List (Int×Int)}(h:Fan W lo g n i rv L){j:Nat}(hj:j<n):∃a k,rv j=.slice a (L j).length k/\(L j).length<=k:=by
 rcases (h.row j hj).2 with ⟨h1,h2⟩|⟨g',cap,cur,h1,_,_,h3,_⟩
 ·exact⟨none,0,by rw[h1,h2],by omega⟩
 ·exact⟨_,cap,h1,h3⟩
def ln_trees(L:List (Int×Int)):L.flatMap (Ly.pair (.int .i64) (.int .i64)).trees=L.flatMap λe=>[T.int .i64 e.1,T.int .i64 e.2]:=rfl
def ln_len(L:List (Int×Int)):(L.flatMap λe=>[T.int .i64 e.1,T.int .i64 e.2]).length=L.length*2:=by
 induction L with
 |nil=>rfl
 |cons a L ih=>rw[Ac,AG,ih,As];simp;omega
def ln_at:∀(L:List (Int×Int)) (k:Nat) (u:Value),(lnC L)[k]? =some u->∃n:Int,u=.int .i64 n/\(L.flatMap λe=>[T.int .i64 e.1,T.int .i64 e.2])[k]? =some (T.int .i64 n)
 |[],k,u,h=>by simp[lnC]at h
 |a::L,0,u,h=>by simp[lnC]at h;exact⟨a.1,h.symm,by simp⟩
 |a::L,1,u,h=>by simp[lnC]at h;exact⟨a.2,h.symm,by simp⟩
 |a::L,k+2,u,h=>by have h:(lnC L)[k]? =some u:=(by simpa [lnC] using h);obtain⟨n,h1,h2⟩:=ln_at L k u h;exact⟨n,h1,by simpa using h2⟩
def Fan.rowTree{U:Nat->Prop}{W:World}{lo g n i:Nat}{rv:Nat->Value}{L:Nat->List (Int×Int)}(h:Fan W lo g n i rv L)(hU:∀b,lo<=b->U b){j:Nat}(hj:j<n):TR U W (.imm ((L j).flatMap (Ly.pair (.int .i64) (.int .i64)).trees) (L j).length none) (clip (rv j)):=by
 rw[ln_trees];have hrow:=h.row j hj;rcases hrow.2 with ⟨h1,h2⟩|⟨g',cap,cur,h1,h2,h3,h4,_,h6,h7⟩
 ·rw[h1,h2,Au.1 h2];exact TR.imm0 none none 0 trivial
 ·rw[h1];show TR U W _ (.slice (some ⟨g',0,none⟩) (L j).length (L j).length);have hc:∀k u,(lnC (L j))[k]? =some u->W.cell? ⟨g',0+k,none⟩=some u:=λk u hu=>by
   rw[<-h7,List.getElem?_take]at hu;split at hu
   ·simp[World.cell?,h3];simpa using hu
   ·cases hu
  have hx:∀k,k<((L j).flatMap λe=>[T.int .i64 e.1,T.int .i64 e.2]).length->∃n:Int,W.cell? ⟨g',0+k,none⟩=some (.int .i64 n)/\((L j).flatMap λe=>[T.int .i64 e.1,T.int .i64 e.2])[k]? =some (T.int .i64 n):=λk hk=>(by have hlen:=hrow.1;rw[ln_len]at hk;obtain⟨n,e1,e2⟩:=ln_at (L j) k ((lnC (L j))[k]'(by omega)) (A4 _);exact⟨n,by rw[hc k _ (A4 (by omega)),e1],e2⟩);refine TR.imm _ _ none g' 0 _ (λk=>(W.cell? ⟨g',0+k,none⟩).getD undef) (hU g' h2) ⟨cur,55,(0,0),h3⟩ trivial (A5 _) (λk hk=> ?_) (λk hk=> ?_)
  ·obtain⟨n,e1,_⟩:=hx k hk;rw[e1];rfl
  ·obtain⟨n,e1,e2⟩:=hx k hk;rw[e1];rw[A4 hk]at e2;injection e2 with e2;rw[e2];exact TR.int _ _
def rows_tr(n:Nat)(L:Nat->List (Int×Int)):((List.range n).map L).flatMap (Ly.sl (.pair (.int .i64) (.int .i64))).trees=(List.range n).map λj=>T.imm ((L j).flatMap (Ly.pair (.int .i64) (.int .i64)).trees) (L j).length none:=by
 induction n with
 |zero=>rfl
 |succ n ih=>rw[Br,AS,AS,CL,ih];rfl
def Fan.tree{U:Nat->Prop}{W:World}{lo g n:Nat}{rv:Nat->Value}{L:Nat->List (Int×Int)}(h:Fan W lo g n n rv L)(hU:∀b,lo<=b->U b):TR U W (.imm (((List.range n).map L).flatMap (Ly.sl (.pair (.int .i64) (.int .i64))).trees) ((List.range n).map L).length none) (.slice (some ⟨g,0,none⟩) n n):=by
 rw[rows_tr,AE,List.length_range];refine TR.imm _ _ none g 0 n (λj=>clip (rv j)) (hU g h.low) ⟨_,_,_,h.top⟩ trivial (A5 _) (λj hj=> ?_) (λj hj=> ?_)
 ·have hj':j<n:=(by simpa using hj);have:=(h.at hj').1;rw[AC hj']at this;rw[AF];exact this
 ·have hj':j<n:=(by simpa using hj);simp only[AP,C4];exact h.rowTree hU hj'
structure NodesAt(w:World)(B:Nat)(v:Value)(N:List NodeT):Prop where
 ex:∃a k,v=.slice a N.length k/\∀i (hi:i<N.length),∃b off aj kj,a=some ⟨b,off,none⟩/\b<B/\b<w.heap.size/\
  w.cell? ⟨b,off+4*i,none⟩=some (.int .u8 N[i].1)/\w.cell? ⟨b,off+(4*i+1),none⟩=some (.slice aj N[i].2.1.length kj)/\w.cell? ⟨b,off+(4*i+2),none⟩=some (.int .i64 N[i].2.2.1)/\w.cell? ⟨b,off+(4*i+3),none⟩=some (.int .i64 N[i].2.2.2)/\
  ∀p (hp:p<N[i].2.1.length),∃b' off',aj=some ⟨b',off',none⟩/\b'<B/\b'<w.heap.size/\w.cell? ⟨b',off'+p,none⟩=some (.int .i64 N[i].2.1[p])
def NodesAt.keep{w w':World}{B:Nat}{v:Value}{N:List NodeT}(h:NodesAt w B v N)(hs:w.heap.size<=w'.heap.size)(hk:∀b,b<B->w'.heap[b]? =w.heap[b]?):NodesAt w' B v N:=by obtain⟨a,k,rfl,hx⟩:=h.ex;refine⟨a,k,rfl,λi hi=> ?_⟩;obtain⟨b,off,aj,kj,h1,h2,h3,h4,h5,h6,h7,h8⟩:=hx i hi;have e:∀o,w'.cell? ⟨b,o,none⟩=w.cell? ⟨b,o,none⟩:=λo=>An (hk b h2);refine⟨b,off,aj,kj,h1,h2,by omega,by rw[e];exact h4,by rw[e];exact h5,by rw[e];exact h6,by rw[e];exact h7,λp hp=> ?_⟩;obtain⟨b',off',g1,g2,g3,g4⟩:=h8 p hp;exact⟨b',off',g1,g2,by omega,(An (hk b' g2)).trans g4⟩
def i64_trees(l:List Int):l.flatMap (Ly.int .i64).trees=l.map (T.int .i64):=by
 induction l with
 |nil=>rfl
 |cons a l ih=>rw[Ac,ih];rfl
def ints_read{U:Nat->Prop}{w:World}{xs:List Int}{v:Value}(h:TR U w (.imm (xs.flatMap (Ly.int .i64).trees) xs.length none) v):
  ∃a k,v=.slice a xs.length k/\∀i (hi:i<xs.length),∃b off,a=some ⟨b,off,none⟩/\b<w.heap.size/\w.cell? ⟨b,off+i,none⟩=some (.int .i64 xs[i]):=by
 rw[i64_trees]at h;generalize ht:T.imm (xs.map (T.int .i64)) xs.length none=t at h
 cases h with
 |imm0 cap' a c hc=>injection ht with h1 h2;have h3:xs=[]:=Au.1 h2;subst h3;exact⟨a,c,rfl,λk hk=>by simp at hk⟩
 |imm cs len cap' b off c f hb hr hc hle hcell ht'=>injection ht with h1 h2;subst h1;subst h2;refine⟨_,c,rfl,λk hk=>⟨b,off,rfl,hr.lt,?_⟩⟩;have hk':k<(xs.map (T.int .i64)).length:=(by simpa using hk);rw[hcell k hk'];have h5:=ht' k hk';simp only[AP]at h5;generalize f k=u at h5⊢;cases h5;rfl
 |_=>cases ht
abbrev ndL:Ly:=.pair (.int .u8) (.pair (.sl (.int .i64)) (.pair (.int .i64) (.int .i64)))
def nd_at:∀(N:List NodeT) (i k:Nat) (hi:i<N.length) (_:k<4),(N.flatMap (Ly.trees ndL))[4*i+k]? =(Ly.trees ndL N[i])[k]?
 |x::N,0,k,hi,hk=>by rw[Ac,AL (by show 4*0+k<4;omega)];simp
 |x::N,i+1,k,hi,hk=>by have e:(Ly.trees ndL x).length=4:=rfl;rw[Ac,AU (by rw[e];omega),e,show 4*(i+1)+k - 4=4*i+k by omega,nd_at N i k (by simpa using hi) hk];simp
def nd_len:∀N:List NodeT,(N.flatMap (Ly.trees ndL)).length=4*N.length
 |[]=>rfl
 |x::N=>by rw[Ac,AG,nd_len N,As];have e:(Ly.trees ndL x).length=4:=rfl;omega
def nodes_read{U:Nat->Prop}{w:World}{N:List NodeT}{v:Value}(h:TR U w (.imm (N.flatMap (Ly.trees ndL)) N.length none) v):NodesAt w w.heap.size v N:=by
 generalize ht:T.imm (N.flatMap (Ly.trees ndL)) N.length none=t at h
 cases h with
 |imm0 cap' a c hc=>injection ht with h1 h2;have h3:N=[]:=Au.1 h2;subst h3;exact⟨a,c,rfl,λk hk=>by simp at hk⟩
 |imm cs len cap' b off c f hb hr hc hle hcell ht'=>
  injection ht with h1 h2;subst h1;subst h2;refine⟨_,c,rfl,λi hi=> ?_⟩;have hl:=nd_len N;have get:∀k (hk:k<4),∃t,(Ly.trees ndL N[i])[k]? =some t/\TR U w t (f (4*i+k))/\w.cell? ⟨b,off+(4*i+k),none⟩=some (f (4*i+k)):=λk hk=>(by have hlt:4*i+k<(N.flatMap (Ly.trees ndL)).length:=(by omega);have h1:=nd_at N i k hi hk;rw[A4 hlt]at h1;exact⟨_,h1.symm,ht' _ hlt,hcell _ hlt⟩);obtain⟨t0,a0,b0,c0⟩:=get 0 (by omega);obtain⟨t1,a1,b1,c1⟩:=get 1 (by omega);obtain⟨t2,a2,b2,c2⟩:=get 2 (by omega);obtain⟨t3,a3,b3,c3⟩:=get 3 (by omega);have a0:some (T.int .u8 N[i].1)=some t0:=a0;have a1:some (T.imm (N[i].2.1.flatMap (Ly.int .i64).trees) N[i].2.1.length none)=some t1:=a1;have a2:some (T.int .i64 N[i].2.2.1)=some t2:=a2;have a3:some (T.int .i64 N[i].2.2.2)=some t3:=a3;injection a0 with a0;injection a1 with a1;injection a2 with a2;injection a3 with a3;subst a0;subst a1;subst a2;subst a3;obtain⟨aj,kj,e1,hread⟩:=ints_read b1;rw[e1]at c1;refine⟨b,off,aj,kj,rfl,hr.lt,hr.lt,?_,c1,?_,?_,λp hp=> ?_⟩
  ·rw[show off+4*i=off+(4*i+0) by omega,c0];generalize f (4*i+0)=u at b0⊢;cases b0;rfl
  ·rw[c2];generalize f (4*i+2)=u at b2⊢;cases b2;rfl
  ·rw[c3];generalize f (4*i+3)=u at b3⊢;cases b3;rfl
  ·obtain⟨b',off',g1,g2,g3⟩:=hread p hp;exact⟨b',off',g1,g2,g2,g3⟩
 |_=>cases ht
end Fo
end
section
open Go.RowKit
namespace Fo
def out163(w:World)(n:Int)(bb len k:Nat)(a:Option Addr)(hc:w.cell? ⟨bb,0,none⟩=some (.slice a len k)):
  Calls prog 163 #[.int .i64 n,.pointer (some ⟨bb,0,none⟩)] w λe w'=>e=.returned (.bool (decide (n<0)||decide (n>=(len:Int))))/\w'=w:=by
 by_cases h0:n<0
 ·go_enter Tryz.func163,Tryz.ntmps163
  go_wp2
  exact BO (results_tmp rfl _ _ _) rfl ⟨by simp[h0],rfl⟩
 ·by_cases h1:n>=(len:Int)
  ·go_enter Tryz.func163,Tryz.ntmps163
   go_wp2
   exact BO (results_tmp rfl _ _ _) rfl ⟨by simp[h0,h1],rfl⟩
  ·go_enter Tryz.func163,Tryz.ntmps163
   go_wp2
   exact BO (results_tmp rfl _ _ _) rfl ⟨by simp[h0,h1],rfl⟩
def clip56(w:World)(a:Option Addr)(n k:Nat)(h:n<=k):Calls prog 56 #[.slice a n k] w λe w'=>e=.returned (clip (.slice a n k))/\w'=w:=by
 go_enter Tryz.func56,Tryz.ntmps56
 go_wp2
 exact BO (results_tmp rfl _ _ _) rfl ⟨rfl,rfl⟩
def make139(w:World)(v0 v1 v2 v3:Value):Calls prog 139 #[.agg #[v0,v1,v2,v3]] w λe w'=>e=.returned (.func (.func 163) #[] #[.pointer (some ⟨w.heap.size,0,none⟩)])/\w'=w.alloc (.cells #[v0,v1,v2,v3] 34):=by
 have hmf:∀(fn:Fn) (first cap:Array Value) (w:World),(Instr.makeFunc fn first cap).run prog w=.ok (.func fn first cap) w:=λ_ _ _ _=>rfl
 go_enter Tryz.func139,Tryz.ntmps139
 go_wp2
 exact BO (results_tmp rfl _ _ _) rfl ⟨rfl,rfl⟩
def out_in(w:World)(n:Int)(bb len k:Nat)(a:Option Addr)(hc:w.cell? ⟨bb,0,none⟩=some (.slice a len k))(h0:0<=n)(h1:n<(len:Int)):
  Calls prog 163 #[.int .i64 n,.pointer (some ⟨bb,0,none⟩)] w λe w'=>e=.returned (.bool false)/\w=w':=by
 refine(out163 w n bb len k a hc).mono ?_;rintro e w' ⟨rfl,rfl⟩;have e1:decide (n<0)=false:=AM (by omega);have e2:decide (n>=(len:Int))=false:=AM (by omega);rw[e1,e2];exact⟨rfl,rfl⟩
def out_out(w:World)(n:Int)(bb len k:Nat)(a:Option Addr)(hc:w.cell? ⟨bb,0,none⟩=some (.slice a len k))(h:¬(0<=n/\n<(len:Int))):
  Calls prog 163 #[.int .i64 n,.pointer (some ⟨bb,0,none⟩)] w λe w'=>e=.returned (.bool true)/\w=w':=by
 refine(out163 w n bb len k a hc).mono ?_;rintro e w' ⟨rfl,rfl⟩;by_cases e1:n<0
 ·rw[AB e1];exact⟨rfl,rfl⟩
 ·rw[AB (show n>=(len:Int) by omega),CG];exact⟨rfl,rfl⟩
def info95:(prog.info? 95).map (λi=>(i.zero,i.size,i.bytes))=some (some (.slice none 0 0),1,24):=by kernel_rfl
def info55:(prog.info? 55).map (λi=>(i.zero,i.size,i.bytes))=some (some (.agg #[.int .i64 0,.int .i64 0]),2,16):=by kernel_rfl
def rdr(N:List NodeT)(i k:Nat)(j:Nat):List (Int×Int):=readers j (N.take i) 0++pinsOf j i ((N[i]?.getD (0,[],0,0)).2.1.take k) 0
def rdr_succ{N:List NodeT}{i q j:Nat}(hi:i<N.length)(hq:q<N[i].2.1.length):rdr N i (q+1) j=rdr N i q j++if N[i].2.1[q]=(j:Int) then [((i:Int),(q:Int))] else []:=by unfold rdr;rw[A4 hi,Aj,<-C0 hq,pinsOf_snoc,Ad,AF,B6,Nat.min_eq_left (by omega)]
def rdr_end{N:List NodeT}{i j:Nat}(hi:i<N.length):rdr N i N[i].2.1.length j=rdr N (i+1) 0 j:=by unfold rdr;rw[A4 hi,Aj,Aa,CN,<-C0 hi,readers_snoc,B6,Nat.min_eq_left (by omega),AF];simp[pinsOf]
def rdr_all{N:List NodeT}{j:Nat}:rdr N N.length 0 j=readers j N 0:=by unfold rdr;rw[Aa,CN];simp[pinsOf]
def pinsOf_len(j i:Nat):∀(l:List Int) (k:Nat),(pinsOf j i l k).length<=l.length
 |[],_=>A5 _
 |a::l,k=>by have:=pinsOf_len j i l (k+1);unfold pinsOf;split<;>simp<;>omega
def readers_len(j:Nat):∀(r:List NodeT) (i:Nat),(∀x∈r,x.2.1.length<=100)->(readers j r i).length<=r.length*100
 |[],_,_=>A5 _
 |x::r,i,h=>by have h1:=readers_len j r (i+1) λy hy=>h y (Bv _ hy);have h2:=pinsOf_len j i x.2.1 0;have h3:=h x (B4 ..);unfold readers;rw[AG,As];omega
def rdr_len{N:List NodeT}{i q j:Nat}(hl:N.length<=100)(hp:∀x∈N,x.2.1.length<=100)(hi:i<N.length)(hq:q<=100):(rdr N i q j).length<=10100:=by
 unfold rdr;rw[AG];have h1:=readers_len j (N.take i) 0 λx hx=>hp x (Ci hx);have h2:=pinsOf_len j i (((N[i]?.getD (0,[],0,0)).2.1).take q) 0;have h3:(N.take i).length<=100:=by rw[B6];omega
 have h4:(((N[i]?.getD (0,[],0,0)).2.1).take q).length<=q:=by rw[B6];omega
 have h5:(N.take i).length*100<=100*100:=Ar _ h3;omega
def Fan.congr{W:World}{lo g n i:Nat}{rv:Nat->Value}{L L':Nat->List (Int×Int)}(h:Fan W lo g n i rv L)(he:∀j,j<n->L j=L' j):Fan W lo g n i rv L':=
 ⟨h.top,h.low,λj hj=>he j hj▸h.row j hj,h.apart⟩
def fan_walk(w:World)(vn v1 v2 v3:Value)(N:List NodeT)(hN:NodesAt w w.heap.size vn N)(hl:N.length<=100)(hp:∀x∈N,x.2.1.length<=100):
  Calls prog 106 #[.agg #[vn,v1,v2,v3]] w λe w'=>∃g rv,e=.returned (.slice (some ⟨g,0,none⟩) N.length N.length)/\Fan w' w.heap.size g N.length N.length rv (λj=>readers j N 0)/\Aw.Bel w.heap.size w w':=by
 obtain⟨a,k,rfl,_⟩:=hN.ex;obtain⟨i0,hi,hz0,hz1,hz2⟩:=info_parts info95;obtain⟨i1,hj,hy0,hy1,hy2⟩:=info_parts info55
 go_enter Tryz.func106,Tryz.ntmps106
 go_wp2_with (first|(at_make;refine wpList_make_full _ rfl _ _ 215 rfl w.heap.size 95 i0 _ 1 Tryz.underlying215 hi hz0 hz1 .i64 .i64 _ _ N.length rfl rfl rfl rfl ?b2 ?b3 ?b4 ?_))
 case b2=>rw[hz2];omega
 case b3=>simp[maxLen];omega
 case b4=>simp
 intro w1 ho1 hg1;have hb1:w1.heap[w.heap.size]? =some (.cells #[.slice a N.length k,v1,v2,v3] 34 (0,0)):=(hg1.block _ (by simp) (by simp)).trans (AQ _ _);have c0:w1.cell? ⟨w.heap.size,0,none⟩=some (.slice a N.length k):=by simp[World.cell?,hb1]
 have c1:w1.cell? ⟨w.heap.size,1,none⟩=some v1:=by simp[World.cell?,hb1]
 have c2:w1.cell? ⟨w.heap.size,2,none⟩=some v2:=by simp[World.cell?,hb1]
 have c3:w1.cell? ⟨w.heap.size,3,none⟩=some v3:=by simp[World.cell?,hb1]
 go_wp2_with (go_at_call 139;refine(make139 _ _ _ _ _).mono ?_)
 rintro e w2 ⟨rfl,hw2⟩;have h1s:w1.heap.size>=w.heap.size+2:=by have:=(ho1.lt _ rfl).2;simp at this;omega
 have hlt1:w.heap.size<w1.heap.size:=by omega
 have hb2:w2.heap[w.heap.size]? =some (.cells #[.slice a N.length k,v1,v2,v3] 34 (0,0)):=by rw[hw2];exact(Below.heap_alloc w1 _ _ hlt1).trans hb1
 have hbx2:w2.heap[w1.heap.size]? =some (.cells #[.slice a N.length k,v1,v2,v3] 34 (0,0)):=by rw[hw2];exact AQ _ _
 have hB2:Aw.Bel w.heap.size w w2:=by rw[hw2];have hA:Aw.Bel w.heap.size w (w.alloc (.cells #[.slice a N.length k,v1,v2,v3] 34)):=Aw.Bel.alloc _ (A5 _);have hM:Aw.Bel w.heap.size (w.alloc (.cells #[.slice a N.length k,v1,v2,v3] 34)) w1:=⟨hg1.os,hg1.output,hg1.size,λb hb=>hg1.block b (by simp;omega) (by simp)⟩;exact(hA.trans hM).trans (Aw.Bel.alloc _ (by omega))
 have hs0:(w.alloc (.cells #[.slice a N.length k,v1,v2,v3] 34)).heap.size=w.heap.size+1:=by simp
 have hF2:Fan w2 w.heap.size (w.heap.size+1) N.length 0 (λ_=>.slice none 0 0) (rdr N 0 0):=by
  rw[hw2];refine Fan.alloc ⟨?_,by omega,λj hj=> ?_,λj j' _ _ _=>.inl rfl⟩ _
  ·rcases ho1.2 with ⟨h,_⟩|⟨g,cap,cur,e1,_,e2,_,_,e3,e4⟩
   ·cases h
   ·injection e1 with e1 _ e5;injection e1 with e1;injection e1 with e1;subst e1;subst e5;rw[e2];have h5:cur.toList=(madeCells #[.slice none 0 0] (N.length*1)).toList:=(by have:List.take (N.length*1) cur.toList=cur.toList:=AN (by simp[e3]);rw[<-this,e4,Nat.mul_one]);rw[Array.toList_inj.1 h5];congr 2;refine Cc (by simp[madeCells]) λq q1 q2=> ?_;simp[madeCells,Nat.mod_one]
  ·have e:rdr N 0 0 j=[]:=(by simp[rdr,readers,pinsOf]);rw[e];exact Ce _ _ _ _
 clear hw2;have d0:w2.cell? ⟨w.heap.size,0,none⟩=some (.slice a N.length k):=by simp[World.cell?,hb2]
 go_wp2
 have h2s:=hB2.size;have h2l:=(A8.1 hbx2).1;clear d0 c0 c1 c2 c3
 go_loopw [20] (λp wr=>∃(i:Nat) (rv:Nat->Value),p=.int .i64 i/\i<=N.length/\Fan wr w.heap.size (w.heap.size+1) N.length 0 rv (rdr N i 0)/\Aw.Bel w.heap.size w wr/\wr.heap[w1.heap.size]? =some (.cells #[.slice a N.length k,v1,v2,v3] 34 (0,0))/\w1.heap.size<wr.heap.size) (λp _=>N.length - (intOf p).toNat)
 case atStart=>exact⟨0,_,rfl,Af _,hF2,hB2,hbx2,h2l⟩
 case round=>
  obtain⟨i,rv,rfl,hin,hF,hB,hbx,hwl⟩:=hrel;have hNw:=hN.keep hB.size hB.block;obtain⟨a',k',hh,hread⟩:=hNw.ex;cases hh;by_cases hil:i<N.length
  ·obtain⟨b,off,aj,kj,rfl,hbB,hbs,r0,r1,r2,r3,r4⟩:=hread i hil;rw[show off+4*i=off+i*4 by omega]at r0;rw[show off+(4*i+1)=off+i*4+1 by omega]at r1;rw[show off+(4*i+2)=off+i*4+2 by omega]at r2;rw[show off+(4*i+3)=off+i*4+3 by omega]at r3;clear hread;have hNi:N[i]?.getD (0,[],0,0)=N[i]:=(by rw[A4 hil];rfl);have hpl:=hp _ (A9 hil);obtain⟨wo,hwo⟩:∃wo,wo=wr:=⟨_,rfl⟩;have hFo:Fan wo w.heap.size (w.heap.size+1) N.length 0 rv (rdr N i 0):=hwo▸hF;have hBo:Aw.Bel w.heap.size w wo:=hwo▸hB;have hbo:wo.heap[w1.heap.size]? =some (.cells #[.slice (some ⟨b,off,none⟩) N.length k,v1,v2,v3] 34 (0,0)):=hwo▸hbx;have hwlo:w1.heap.size<wo.heap.size:=hwo▸hwl;have hread4:∀p (hp:p<N[i].2.1.length),∃b' off',aj=some ⟨b',off',none⟩/\b'<w.heap.size/\w.cell? ⟨b',off'+p,none⟩=some (.int .i64 N[i].2.1[p]):=λp hp=>(by obtain⟨b',off',g1,g2,g3,g4⟩:=r4 p hp;exact⟨b',off',g1,g2,(An (hB.block b' g2)).symm.trans g4⟩);clear r4
   go_wp2
   clear hF hB hbx hwl r0 r1 r2 r3;subst hwo
   go_loopw [28] (λp wi=>∃(q:Nat) (rv:Nat->Value),p=.int .i64 q/\q<=N[i].2.1.length/\Fan wi w.heap.size (w.heap.size+1) N.length 0 rv (rdr N i q)/\Aw.Bel w.heap.size w wi/\wi.heap[w1.heap.size]? =some (.cells #[.slice (some ⟨b,off,none⟩) N.length k,v1,v2,v3] 34 (0,0))/\w1.heap.size<wi.heap.size) (λp _=>N[i].2.1.length - (intOf p).toNat)
   case atStart=>exact⟨0,rv,rfl,Af _,hFo.alloc _,hBo.trans (Aw.Bel.alloc _ hBo.size),(Below.heap_alloc _ _ _ hwlo).trans hbo,by simp;omega⟩
   case round=>
    obtain⟨q,rv',rfl,hqn,hF,hB,hbx,hwl⟩:=hrel;by_cases hql:q<N[i].2.1.length
    ·obtain⟨b',off',rfl,g2,g3⟩:=hread4 q hql;have hcell:wr.cell? ⟨b',off'+q,none⟩=some (.int .i64 N[i].2.1[q]):=(An (hB.block b' g2)).trans g3;have hbc:wr.cell? ⟨w1.heap.size,0,none⟩=some (.slice (some ⟨b,off,none⟩) N.length k):=(by simp[World.cell?,hbx]);clear g3 hread4;obtain⟨x,hx⟩:∃x,x=N[i].2.1[q]:=⟨_,rfl⟩;rw[<-hx]at hcell;have HX:Hid (x=N[i].2.1[q]):=hx;clear hx;by_cases hxr:0<=x/\x<(N.length:Int)
     ·obtain⟨j,rfl⟩:∃j:Nat,x=(j:Int):=⟨x.toNat,by omega⟩;have hjn:j<N.length:=(by omega);obtain⟨ra,rk,hrv,hrk⟩:=hF.slice hjn;obtain⟨f1,f2⟩:=hF.at hjn;rw[AK (by omega),hrv]at f1;have hrow:=hF.row j hjn;have HS:=λ(v':Value) (W1:World) (h1:W1.ownsRow w.heap.size 55 2 v' ((rdr N i q j).length+1) (lnC (rdr N i q j)++[.int .i64 (i:Int),.int .i64 (q:Int)]))=>(hF.alloc (.cells #[.int .i64 (i:Int),.int .i64 (q:Int)] 55)).step hjn (v':=v') (W1:=W1) (a:=(i:Int)) (b:=(q:Int)) h1;have HT:=(hF.alloc (.cells #[.int .i64 (i:Int),.int .i64 (q:Int)] 55)).top;have HN:=own_ne (hrow.alloc (.cells #[.int .i64 (i:Int),.int .i64 (q:Int)] 55)) HT (by decide);rw[hrv]at hrow HS HN;generalize hlen:(rdr N i q j).length=ln at hrow hrv f1 HS HN hrk;have hln:ln<=10100:=by rw[<-hlen];exact rdr_len hl hp (by omega) (by omega)
      go_wp2_with (first|(go_at_call 163;refine(out_in _ _ _ _ _ _ hbc (by omega) (by omega)).mono ?_;rintro e w5 ⟨rfl,rfl⟩)|(at_builtin;go_loud (refine wpList_append_own_at _ rfl _ _ 95 rfl w.heap.size 55 i1 (.agg #[.int .i64 0,.int .i64 0]) 2 16 Tryz.underlying95 hj hy0 hy1 hy2 rfl (by decide) (.slice ra ln rk) ln _ rfl (hrow.alloc _) ⟨wr.heap.size,0,none⟩ 1 1 [.int .i64 (i:Int),.int .i64 (q:Int)] rfl rfl ?p1 ?p2 ?p3 ?p4 ?p5 ?_)))
      case p1=>
       intro j' u hj'
       match j',hj' with
       |0,hj'=>simp at hj';subst hj';simp[Addr.add]
       |1,hj'=>simp at hj';subst hj';simp[Addr.add]
      case p2=>intro u hu;simp at hu;rcases hu with rfl|rfl<;>rfl
      case p3=>unfold maxLen;omega
      case p4=>omega
      case p5=>have:=hB.size;simp;omega
      intro v' w6 hown6 hgrow6 _ hat6;have hFan:=HS v' w6 hown6 hgrow6 (by simpa using hat6);obtain⟨av,kv,rfl⟩:∃a k,v'=.slice a (ln+1) k:=by
       rcases hown6.2 with ⟨h,h'⟩|⟨g,cap,cur,h,_⟩
       ·omega
       ·exact⟨_,_,h⟩
      have hT6:w6.heap[w.heap.size+1]? =some (.cells ((List.range N.length).map λj=>if j<0 then clip (rv' j) else rv' j).toArray 95 (0,0)):=(hgrow6.block _ (A8.1 HT).1 (λe=>HN e.symm)).trans HT;have f6:w6.cell? ⟨w.heap.size+1,j,none⟩=some (rv' j):=(by simp[World.cell?,hT6,hjn]);have f7:w6.frozen? ⟨w.heap.size+1,j,none⟩=false:=(by simp[World.frozen?,hT6]);have hB6:Aw.Bel w.heap.size w w6:=hB.trans ((Aw.Bel.alloc _ hB.size).trans ⟨hgrow6.os,hgrow6.output,hgrow6.size,λc hc=>hgrow6.block c (by have:=hB.size;simp;omega) (λe=>by
       have:=(hrow.lt c e.symm).1;omega)⟩)
      have hbx6:w6.heap[w1.heap.size]? =some (.cells #[.slice (some ⟨b,off,none⟩) N.length k,v1,v2,v3] 34 (0,0)):=(hgrow6.block _ (by simp;omega) (λe=>own_ne (hrow.alloc (.cells #[.int .i64 (i:Int),.int .i64 (q:Int)] 55)) ((Below.heap_alloc _ _ _ hwl).trans hbx) (by decide) e.symm)).trans ((Below.heap_alloc _ _ _ hwl).trans hbx);have hs6:wr.heap.size+1<=w6.heap.size:=(by have:=hgrow6.size;simpa using this);clear hown6 hgrow6 hat6 HS HT HN hT6 f1 f2 hrow
      go_wp2
      go_roundw
      case rel=>
       refine⟨q+1,_,by simp,by omega,hFan.congr λj' hj'=> ?_,hB6.trans (Aw.Bel.setCell _ _ (by simp)),(Below.heap_setCell _ _ _ _ (by show w1.heap.size≠w.heap.size+1;omega)).trans hbx6,by simp;omega⟩;rw[rdr_succ hil hql];have hx:((j:Nat):Int)=N[i].2.1[q]:=HX.out;rw[<-hx];by_cases e:j'=j
       ·subst e;simp
       ·rw[AK e,AK (λh=>e (by omega)),Bn]
      case measure=>simp[intOf];omega
     ·have hF':Fan wr w.heap.size (w.heap.size+1) N.length 0 rv' (rdr N i (q+1)):=hF.congr λj' hj'=>by rw[rdr_succ hil hql];have hx:x=N[i].2.1[q]:=HX.out;rw[<-hx,AK (λh=>hxr (by omega)),Bn]
      go_wp2_with (first|(go_at_call 163;refine(out_out _ _ _ _ _ _ hbc hxr).mono ?_;rintro e w5 ⟨rfl,rfl⟩))
      go_roundw
      case rel=>exact⟨q+1,rv',by simp,by omega,hF',hB,hbx,hwl⟩
      case measure=>simp[intOf];omega
    ·have hqe:q=N[i].2.1.length:=(by omega);subst hqe;clear hread4;have hF':Fan wr w.heap.size (w.heap.size+1) N.length 0 rv' (rdr N (i+1) 0):=hF.congr λj' hj'=>rdr_end hil
     go_wp2
     go_roundw
     case rel=>exact⟨i+1,rv',by simp,by omega,hF',hB,hbx,hwl⟩
     case measure=>simp[intOf];omega
  ·have hie:i=N.length:=(by omega);subst hie;clear hread hNw;have hF':Fan wr w.heap.size (w.heap.size+1) N.length 0 rv (λj=>readers j N 0):=hF.congr λj' hj'=>rdr_all;clear hF hbx hwl hB2 hF2 hb2 hbx2 h2s h2l
   go_wp2
   go_loopw [53] (λp wi=>∃(i:Nat),p=.int .i64 i/\i<=N.length/\Fan wi w.heap.size (w.heap.size+1) N.length i rv (λj=>readers j N 0)/\Aw.Bel w.heap.size w wi) (λp _=>N.length - (intOf p).toNat)
   case atStart=>exact⟨0,rfl,Af _,hF',hB⟩
   case round=>
    obtain⟨i,rfl,hin,hF,hB⟩:=hrel;by_cases hil:i<N.length
    ·obtain⟨ra,rk,hrv,hrk⟩:=hF.slice hil;obtain⟨f1,f2⟩:=hF.at hil;rw[AK (by omega),hrv]at f1;have hC:=hF.clip1 hil;rw[hrv]at hC;have e1:clip (.slice ra (readers i N 0).length rk)=.slice ra (readers i N 0).length (readers i N 0).length:=rfl;rw[e1]at hC;generalize (readers i N 0).length=ln at hrk f1 hC hrv e1
     go_wp2_with (first|(go_at_call 56;refine(clip56 _ _ _ _ hrk).mono ?_;rintro e w5 ⟨rfl,h5⟩;have h5:=h5.symm;subst h5;rw[e1]))
     go_roundw
     case rel=>exact⟨i+1,by simp,by omega,hC,hB.trans (Aw.Bel.setCell _ _ (by simp))⟩
     case measure=>simp[intOf];omega
    ·have hie:i=N.length:=(by omega);subst hie
     go_wp2
     exact BO (results_tmp rfl _ _ _) rfl ⟨_,rv,rfl,hF,hB⟩
end Fo
end
section
open Go.RowKit Go.Maps
abbrev FailT:=Int×Bool×Int
namespace Ho
def fv(f:FailT):Value:=.agg #[.int .i64 f.1,.bool f.2.1,.int .i64 f.2.2]
def Small(f:FailT):Prop:=0<=f.1/\f.1<=100000/\0<=f.2.2/\f.2.2<=100000
def KL(f:FailT):Lit:=.string (keyBytes [.int .i64 f.1,.bool f.2.1,.int .i64 f.2.2])
def wide60:(match prog.underlying 60 with|some (.array _ _)|some (.struct _)=>true|_=>false)=true:=by kernel_rfl
def law60:Keyed prog 60:=Keyed.of_law (Go.deep_law (m:=2) (by omega) (by kernel_rfl) (by kernel_rfl) wide60)
def wf_small{n:Int}(h:0<=n)(h':n<=100000):(Lit.int .i64 n).wf=true:=by simp[Lit.wf,IntKind.min,IntKind.max,IntKind.signed,IntKind.bits];omega
def key60{f:FailT}(h:Small f):keyOf prog 60 (fv f)=some (KL f):=by
 obtain⟨t,b,i⟩:=f;obtain⟨h1,h2,h3,h4⟩:=h;have w1:=wf_small h1 h2;have w2:=wf_small h3 h4;obtain⟨d,hd⟩:∃d,prog.types.size=d+1:=⟨prog.types.size - 1,by kernel_rfl⟩;have hk:prog.keyType 60=true:=by kernel_rfl
 have hc:prog.cellsOf 60=3:=by kernel_rfl
 have hc3:prog.cellsOf 3=1:=by kernel_rfl
 have hc4:prog.cellsOf 4=1:=by kernel_rfl
 have h5:∀n,(Lit.int .i64 n).wf=true->prog.keyLits (d+1) 3 [.int .i64 n]=some [.int .i64 n]:=λn hn=>by unfold Program.keyLits;rw[Tryz.underlying3];simp[hn]
 have h6:∀b,prog.keyLits (d+1) 4 [.bool b]=some [.bool b]:=λb=>by unfold Program.keyLits;rw[Tryz.underlying4]
 have h7:prog.keyLits (prog.types.size+1) 60 [.int .i64 t,.bool b,.int .i64 i]=some [.int .i64 t,.bool b,.int .i64 i]:=by rw[hd];unfold Program.keyLits;rw[Tryz.underlying60];simp[hc,hc3,hc4,h5 t w1,h6,h5 i w2]
 have hf:(fv (t,b,i)).formed prog 60=true:=by simp[fv,Value.formed,Tryz.underlying60,hc]
 unfold keyOf;rw[Tryz.underlying60];simp only[hk,hf,AH,Aq];show(prog.keyLits (prog.types.size+1) 60 [.int .i64 t,.bool b,.int .i64 i]).map _=_;rw[h7];rfl
def setD:List FailT->DataW Unit->DataW Unit
 |[],D=>D
 |f::l,D=>setD l (D.put (KL f) (.lit (.bool true)))
def setD_snoc:∀(l:List FailT) (D:DataW Unit) (f:FailT),setD (l++[f]) D=(setD l D).put (KL f) (.lit (.bool true))
 |[],_,_=>rfl
 |a::l,D,f=>setD_snoc l _ f
structure FailsAt(w:World)(B:Nat)(v:Value)(lg:List FailT):Prop where
 ex:∃a k,v=.slice a lg.length k/\∀i (hi:i<lg.length),∃b off,a=some ⟨b,off,none⟩/\b<B/\
  w.cell? ⟨b,off+i*3,none⟩=some (.int .i64 lg[i].1)/\w.cell? ⟨b,off+i*3+1,none⟩=some (.bool lg[i].2.1)/\w.cell? ⟨b,off+i*3+2,none⟩=some (.int .i64 lg[i].2.2)
def FailsAt.keep{w w':World}{B:Nat}{v:Value}{lg:List FailT}(h:FailsAt w B v lg)(hk:∀b,b<B->w'.heap[b]? =w.heap[b]?):FailsAt w' B v lg:=by obtain⟨a,k,rfl,hx⟩:=h.ex;refine⟨a,k,rfl,λi hi=> ?_⟩;obtain⟨b,off,h1,h2,h3,h4,h5⟩:=hx i hi;have e:∀o,w'.cell? ⟨b,o,none⟩=w.cell? ⟨b,o,none⟩:=λo=>An (hk b h2);exact⟨b,off,h1,h2,(e _).trans h3,(e _).trans h4,(e _).trans h5⟩
def made113(w:World)(n:Int):(Instr.makeMap 113 (some (.int .i64 n))).run prog w=.ok (.map (some w.heap.size)) (w.alloc (.map #[] 0)):=by simp[Instr.makeMap,AZ Tryz.underlying113,go_sem]
def set_walk(w:World)(v:Value)(lg:List FailT)(hv:FailsAt w w.heap.size v lg)(hs:∀f∈lg,Small f)(hl:lg.length<=1000000):
  Calls prog 32 #[v] w λe w'=>∃bm n,e=.returned (.map (some bm))/\w.heap.size<=bm/\n<=lg.length/\w'.ownsMap prog 60 (plainElem (H:=Unit) prog 4) bm n (setD lg (.map []))/\Aw.Bel w.heap.size w w':=by
 obtain⟨a,k,rfl,_⟩:=hv.ex;have hmm:=made113
 go_enter Tryz.func32,Tryz.ntmps32
 go_wp2
 go_loopw [11] (λp wr=>∃(i n:Nat),p=.int .i64 i/\i<=lg.length/\n<=i/\wr.ownsMap prog 60 (plainElem (H:=Unit) prog 4) w.heap.size n (setD (lg.take i) (.map []))/\Aw.Bel w.heap.size w wr) (λp _=>lg.length - (intOf p).toNat)
 case atStart=>exact⟨0,0,rfl,Af _,A5 _,Cp w prog 60 (plainElem (H:=Unit) prog 4),Aw.Bel.alloc _ (A5 _)⟩
 case round=>
  obtain⟨i,n,rfl,hi,hn,hown,hB⟩:=hrel;have hvw:=hv.keep hB.block;obtain⟨a',k',hh,hread⟩:=hvw.ex;cases hh;by_cases hil:i<lg.length
  ·obtain⟨b,off,rfl,hbB,r0,r1,r2⟩:=hread i hil;have hkey:=key60 (hs _ (A9 hil));have hsn:=setD_snoc (lg.take i) (.map []) lg[i];rw[C0 hil]at hsn;clear hread hvw hs;generalize lg[i]=f at*
   obtain⟨t,nx,ix⟩:=f;simp only at r0 r1 r2
   go_wp2_with (first
    |(at_mapUpdate;refine Cg _ rfl _ _ _ 113 rfl 60 4 law60 Tryz.underlying113 (plainElem (H:=Unit) prog 4) w.heap.size n _ rfl (hown.alloc _) (by unfold maxLen;omega) _ _ _ rfl rfl hkey _ [] (Ch Tryz.underlying4 true) ?_;intro w5 hown5 hgrow5)
    |go_in)
   go_roundw
   case rel=>exact⟨i+1,n+1,by simp,hil,by omega,by rw[hsn];exact hown5,Nm.Bel.grown (hB.trans (Aw.Bel.alloc _ hB.size)) hgrow5 (A5 _) (A5 _)⟩
   case measure=>simp[intOf];omega
  ·have hie:i=lg.length:=(by omega);subst hie;rw[Aa]at hown
   go_wp2
   go_ret
   exact⟨_,n,rfl,A5 _,hn,hown,hB⟩
def bool_inv2{v:Value}{d:DataW Unit}{ps:List MemPlace}(h:plainElem (H:=Unit) prog 4 v=some (d,ps)):∃x,v=.bool x/\d=.lit (.bool x):=by unfold plainElem at h;rw[Tryz.underlying4]at h;cases v<;>simp at h;exact⟨_,rfl,h.1.symm⟩
def key60_inv{x:Value}{kl:Lit}(h:keyOf prog 60 x=some kl):∃f:FailT,x=fv f:=by
 have hc:prog.cellsOf 60=3:=by kernel_rfl
 unfold keyOf at h;rw[Tryz.underlying60]at h;simp only at h;split at h
 ·rename_i hf;have hf:=(Bool.and_eq_true_iff.1 hf).2;cases x<;>simp[Value.formed,Tryz.underlying60,hc]at hf;rename_i cs _;obtain⟨v0,v1,v2,rfl⟩:∃v0 v1 v2,cs= #[v0,v1,v2]:=by
   refine⟨cs[0],cs[1],cs[2],?_⟩;refine Cc (by simpa using hf) λi h1 h2=> ?_;have h2:i<3:=h2
   match i,h2 with
   |0,_=>rfl
   |1,_=>rfl
   |2,_=>rfl
  obtain⟨d,hd⟩:∃d,prog.types.size=d+1:=⟨prog.types.size - 1,by kernel_rfl⟩;have hc3:prog.cellsOf 3=1:=(by kernel_rfl);have hc4:prog.cellsOf 4=1:=(by kernel_rfl);have g3:∀v L,prog.keyLits (d+1) 3 [v]=some L->∃n,v=.int .i64 n:=λv L hv=>(by unfold Program.keyLits at hv;rw[Tryz.underlying3]at hv;cases v<;>simp at hv;exact⟨_,by rw[hv.1.1]⟩);have g4:∀v L,prog.keyLits (d+1) 4 [v]=some L->∃b,v=.bool b:=λv L hv=>(by unfold Program.keyLits at hv;rw[Tryz.underlying4]at hv;cases v<;>simp at hv;exact⟨_,rfl⟩);have h8:∃L,prog.keyLits (prog.types.size+1) 60 [v0,v1,v2]=some L:=by
   cases hL:prog.keyLits (prog.types.size+1) 60 [v0,v1,v2] with
   |none=>have h:Option.map (λls=>Lit.string (keyBytes ls)) (prog.keyLits (prog.types.size+1) 60 [v0,v1,v2])=some kl:=h;rw[hL]at h;cases h
   |some L=>exact⟨L,rfl⟩
  obtain⟨L,h8⟩:=h8;rw[hd]at h8;obtain⟨F,hF⟩:∃F,F=prog.keyLits (d+1):=⟨_,rfl⟩;have e8 : ∀ td,prog.underlying 60 = some (.struct td) -> prog.keyLits (d + 1 + 1) 60 [v0,v1,v2] = if [v0,v1,v2].length = prog.cellsOf 60 /\ td.all (·.name != "_") = true then (td.toList.mapM λf => F f.type (([v0,v1,v2].drop f.offset).take (prog.cellsOf f.type))).map List.flatten else none := λtd ht => by unfold Program.keyLits;rw[ht,hF]
  rw[<-hF]at g3 g4;rw[e8 _ Tryz.underlying60]at h8;simp[hc,hc3,hc4,Option.bind_eq_some_iff]at h8;obtain⟨_,q0,_,⟨_,q1,_,⟨_,q2,_⟩,_⟩,_⟩:=h8;obtain⟨n0,rfl⟩:=g3 _ _ q0;obtain⟨n1,rfl⟩:=g4 _ _ q1;obtain⟨n2,rfl⟩:=g3 _ _ q2;exact⟨(n0,n1,n2),rfl⟩
 ·cases h
def equal_walk(w:World)(b1 b2 n1 n2:Nat)(D1 D2:DataW Unit)(h1:w.ownsMap prog 60 (plainElem (H:=Unit) prog 4) b1 n1 D1)(h2:w.ownsMap prog 60 (plainElem (H:=Unit) prog 4) b2 n2 D2):
   Calls prog 33 #[.map (some b1),.map (some b2)] w λe w'=>∃r,e=.returned (.bool r)/\(D1=D2->r=true)/\w.grownBy w' none:=by
 have l1:=λty=>h1.len (t:=113) Tryz.underlying113 ty;have l2:=λty=>h2.len (t:=113) Tryz.underlying113 ty;have hb2:=h2.lt;by_cases hsz:Maps.size D1=Maps.size D2
 · go_enter Tryz.func33,Tryz.ntmps33
   go_wp2_with (first
     |(at_range;refine wpList_range_own _ rfl _ 113 rfl 60 4 law60 Tryz.underlying113 (plainElem (H:=Unit) prog 4) b1 n1 _ rfl h1 ?_;intro w0 hrg0 hg0 hs0)
     |go_in)
   go_frame
   go_loopw [16] (λ_ wr=>∃(left:Lit->Bool) (cnt:Nat),wr.ranges prog 60 (plainElem (H:=Unit) prog 4) b1 w.heap.size n1 D1 left cnt/\wr.ownsMap prog 60 (plainElem (H:=Unit) prog 4) b2 n2 D2/\w.grownBy wr none)
     (λ_ wr=>wr.rangeLeft b1 w.heap.size)
   case atStart=>exact⟨_,_,hrg0,h2.kept hg0 (by simp),hg0⟩
   case round=>
     obtain⟨left,cnt,hrg,h2r,hgw⟩:=hrel
     go_wp2_with (first
       |(at_next;refine wpList_next_ranges _ rfl _ rfl 60 law60 (plainElem (H:=Unit) prog 4) id id (λkey _ _=>⟨key,rfl⟩) (λv _ _=>⟨v,rfl⟩) b1 w.heap.size n1 _ _ _ rfl hrg ?_ ?_)
       |go_in)
     · intro _ hl0
       go_wp2
       go_ret
       exact⟨true,rfl,λ_=>rfl,hgw⟩
     · intro x c kl yd yp w1 cnt1 hkey hlx hv hat hrg1 hlt hg1 hs1 hen
       have hgw1:w.grownBy w1 none:=hgw.andThen hg1 (λj hj=>by cases hj;exact Or.inl (A5 _));have h2w1:=h2r.kept hg1 (λe=>by have:=BA e;omega);obtain⟨⟨k0,k1,k2⟩,rfl⟩:=key60_inv hkey;unfold fv at*
       simp only at hen;obtain⟨x1,rfl,rfl⟩:=bool_inv2 hv;have HE:Hid (D1=D2->Maps.has D2 kl=true/\D2.atKey kl (.lit (.bool false))=.lit (.bool x1)):=λe=>e▸⟨Maps.has_true_of_atKey hat,hat _⟩;have hrg2:=hrg1.alloc (.cells #[.int .i64 k0,.bool k1,.int .i64 k2] 60);have hgw2:=hgw1.andThen (World.grownBy_alloc w1 (.cells #[.int .i64 k0,.bool k1,.int .i64 k2] 60) none) (λj hj=>by cases hj);clear hat hv hsz l1 l2 hs1
       go_wp2_with (first
         |(at_lookup;refine wpList_lookup_own_ok _ rfl _ _ 113 rfl 60 4 law60 Tryz.underlying113 (plainElem (H:=Unit) prog 4) (Nm.zero4 _) (.lit (.bool false)) [] (Ch Tryz.underlying4 false) b2 n2 D2 rfl (h2w1.alloc _) _ kl rfl hkey ?_;intro v5 ps5 hv5;obtain⟨x2,rfl,hx2⟩:=bool_inv2 hv5;go_frame)
         |go_in)
       all_goals first
         |(
            go_roundw
            case rel=>exact⟨_,cnt1,hrg2,h2w1.alloc _,hgw2⟩
            case measure=>rw[hrg2.left_eq,hrg.left_eq];exact hlt)
         |(
            go_ret
            refine Or.inl ⟨rfl,λe=> ?_,hgw2⟩;obtain⟨q1,q2⟩:=HE.out e;have q3:x2=x1:=(by rw[hx2]at q2;simpa using q2);subst q3;first|exact absurd q1 ‹_› |(cases x2<;>simp_all))
 · have hne:¬((Maps.size D1:Int)=(Maps.size D2:Int)):=λe=>hsz (by exact_mod_cast e)
   go_enter Tryz.func33,Tryz.ntmps33
   go_wp2
   go_ret
   exact⟨false,rfl,λe=>absurd (by rw[e]) hsz,World.grownBy.refl _ _⟩
end Ho
end
section
open Go.RowKit Go.Maps
namespace Ho
structure DictAt(w:World)(B:Nat)(v:Value)(d:List (List FailT)):Prop where
 ex:∃a k,v=.slice a d.length k/\∀i (hi:i<d.length),∃b off u,a=some ⟨b,off,none⟩/\b<B/\w.cell? ⟨b,off+i,none⟩=some u/\FailsAt w B u d[i]
def DictAt.keep{w w':World}{B:Nat}{v:Value}{d:List (List FailT)}(h:DictAt w B v d)(hk:∀b,b<B->w'.heap[b]? =w.heap[b]?):DictAt w' B v d:=by obtain⟨a,k,rfl,hx⟩:=h.ex;refine⟨a,k,rfl,λi hi=> ?_⟩;obtain⟨b,off,u,h1,h2,h3,h4⟩:=hx i hi;exact⟨b,off,u,h1,h2,(An (hk b h2)).trans h3,h4.keep hk⟩
def FailsAt.up{w:World}{B B':Nat}{v:Value}{lg:List FailT}(h:FailsAt w B v lg)(hB:B<=B'):FailsAt w B' v lg:=by obtain⟨a,k,rfl,hx⟩:=h.ex;refine⟨a,k,rfl,λi hi=> ?_⟩;obtain⟨b,off,h1,h2,h3⟩:=hx i hi;exact⟨b,off,h1,by omega,h3⟩
def info3:(prog.info? 3).map (λi=>(i.zero,i.size,i.bytes))=some (some (.int .i64 0),1,8):=by kernel_rfl
def clip34(w:World)(a:Option Addr)(n k:Nat)(h:n<=k):Calls prog 34 #[.slice a n k] w λe w'=>e=.returned (.slice a n n)/\w=w':=by
 go_enter Tryz.func34,Tryz.ntmps34
 go_wp2
 exact BO (results_tmp rfl _ _ _) rfl ⟨rfl,rfl⟩
def map_ne{W:World}{b n:Nat}{D:DataW Unit}{k:TypeId}{R:Value->Option (DataW Unit×List MemPlace)}(h:W.ownsMap prog k R b n D){lo e m s:Nat}{v:Value}{xs:List Value}(ho:W.ownsRow lo e s v m xs):some b≠v.ownBlock:=by
 obtain⟨es,clock,hb,_⟩:=h;rcases ho.2 with ⟨rfl,_⟩|⟨g',cap',cur',rfl,g2',g3',_⟩
 ·simp[Value.ownBlock]
 ·intro e1;injection e1 with e1;have e1:b=g':=e1;rw[<-e1,hb]at g3';cases g3'
def map_bel{P:Program}{k:TypeId}{R:Value->Option (DataW Unit×List MemPlace)}{b n:Nat}{D:DataW Unit}{w w':World}(h:Aw.Bel w.heap.size w w')(ho:w.ownsMap P k R b n D):w'.ownsMap P k R b n D:=by have hlt:=ho.lt;obtain⟨es,clock,hb,F,hs,hD⟩:=ho;exact⟨es,clock,(h.block b hlt).trans hb,F,hs,hD⟩
def bel0{w w':World}(h:w.grownBy w' none):Aw.Bel w.heap.size w w':=⟨h.os,h.output,h.size,λb hb=>h.block b hb (by simp)⟩
def row_bel{W W':World}{lo e n s:Nat}{v:Value}{xs:List Value}(ho:W.ownsRow lo e s v n xs)(h:Aw.Bel W.heap.size W W'):W'.ownsRow lo e s v n xs:=Fo.own_keep ho λg hg=>h.block g (ho.lt g hg).2
def row_slice{W:World}{lo e s:Nat}{v:Value}{n:Nat}{xs:List Value}(h:W.ownsRow lo e s v n xs):∃a k,v=.slice a n k/\n<=k:=by
 rcases h.2 with ⟨h1,h2⟩|⟨g',cap,cur,h1,_,_,h3,_⟩
 ·exact⟨none,0,by rw[h1,h2],by omega⟩
 ·exact⟨_,cap,h1,h3⟩
def intv(xs:List Int):List Value:=xs.map (.int .i64)
structure IsEx(d:List (List FailT))(lg:List FailT)(W:World)(e:Ending)(W':World):Prop where
 ex:∃(a:Option Addr) (k:Nat) (xs:List Int),e=.returned (.slice a xs.length xs.length)/\W'.ownsRow W.heap.size 3 1 (.slice a xs.length k) xs.length (intv xs)/\xs.length<=d.length/\(∀x∈xs,0<=x/\x<=100000)/\(∀i (hi:i<d.length),d[i]=lg->(i:Int)∈xs)/\Aw.Bel W.heap.size W W'
def exact_walk(w:World)(vd vl:Value)(d:List (List FailT))(lg:List FailT)(hd:DictAt w w.heap.size vd d)(hl:FailsAt w w.heap.size vl lg)(hdl:d.length<=100000)(hll:lg.length<=100000)(hdr:∀r∈d,r.length<=100000)(sl:∀f∈lg,Small f)(sd:∀r∈d,∀f∈r,Small f):
  Calls prog 10 #[vd,vl] w (IsEx d lg w):=by
 obtain⟨a,k,rfl,_⟩:=hd.ex;obtain⟨i1,hj,hy0,hy1,hy2⟩:=info_parts info3
 go_enter Tryz.func10,Tryz.ntmps10
 go_wp2_with (first|(go_at_call 32;refine(set_walk _ _ _ hl sl (by omega)).mono ?_;rintro e w1 ⟨bm,nm,rfl,hbm,hnm,hown,hB⟩)|go_in)
 go_loopw [6,13] (λv p wr=>∃(i:Nat) (xs:List Int) (av:Option Addr) (kv:Nat),p=.int .i64 i/\v=.slice av xs.length kv/\xs.length<=kv/\i<=d.length/\(xs.length<=i/\∀x∈xs,0<=x/\x<=100000)/\(∀j (hj:j<d.length),j<i->d[j]=lg->(j:Int)∈xs)/\wr.ownsRow w.heap.size 3 1 (.slice av xs.length kv) xs.length (intv xs)/\wr.ownsMap prog 60 (plainElem (H:=Unit) prog 4) bm nm (setD lg (.map []))/\Aw.Bel w.heap.size w wr) (λ_ p _=>d.length - (intOf p).toNat)
 case atStart=>exact⟨0,[],none,0,rfl,rfl,A5 _,Af _,⟨A5 _,λx hx=>by cases hx⟩,λj _ h=>absurd h (CX j),Ce _ _ _ _,hown,hB⟩
 case round=>
  obtain⟨i,xs,av,kv,rfl,rfl,hkv,hi,⟨hxl,hxb0⟩,hin,hrow,hmap,hB⟩:=hrel;have HXB:Hid (∀x∈xs,0<=x/\x<=100000):=hxb0;clear hxb0;have hdw:=hd.keep hB.block;obtain⟨a',k',hh,hread⟩:=hdw.ex;cases hh;have hws:=hB.size;by_cases hil:i<d.length
  ·obtain⟨b,off,u,rfl,hbB,r0,hrow_i⟩:=hread i hil;have hfi:=hrow_i.up hws;have hsi:=sd _ (A9 hil);have hli:=hdr _ (A9 hil);have HIN:Hid (∀j (hj:j<d.length),j<i->d[j]=lg->(j:Int)∈xs):=hin;have HEQ:Hid (d[i]=lg->setD d[i] (.map [])=setD lg (.map [])):=λe=>(by rw[e]);clear hread hdw hin hrow_i sl sd hdr
   go_wp2_with (first
    |(go_at_call 32;refine(set_walk _ _ _ hfi hsi (by omega)).mono ?_;rintro e w1 ⟨bm1,nm1,rfl,hbm1,hnm1,hown1,hB1⟩)
    |(go_at_call 33;refine(equal_walk _ _ _ _ _ _ _ hown1 (map_bel hB1 hmap)).mono ?_;rintro e w2 ⟨r,rfl,hr,hg2⟩;have hB2:=bel0 hg2;have hrow2:=row_bel (row_bel hrow hB1) hB2;have hmap2:=map_bel hB2 (map_bel hB1 hmap);clear hg2)
    |(at_builtin;go_loud (refine wpList_append_own_at _ rfl _ _ 32 rfl w.heap.size 3 i1 (.int .i64 0) 1 8 Tryz.underlying32 hj hy0 hy1 hy2 rfl (by decide) (.slice av xs.length kv) xs.length _ rfl (hrow2.alloc _) ⟨w2.heap.size,0,none⟩ 1 1 [.int .i64 (i:Int)] rfl rfl ?p1 ?p2 ?p3 ?p4 ?p5 ?_))
    |go_in)
   case p1=>
    intro j' u hj'
    match j',hj' with
    |0,hj'=>simp at hj';subst hj';simp[Addr.add]
   case p2=>intro u hu;simp at hu;subst hu;rfl
   case p3=>unfold maxLen;omega
   case p4=>omega
   case p5=>have:=hB1.size;have:=hB2.size;simp;omega
   ·intro v' w6 hown6 hgrow6 _ hat6;have ei:intv xs++[Value.int .i64 (i:Int)]=intv (xs++[(i:Int)]):=(by simp[intv]);rw[ei]at hown6;obtain⟨a6,k6,rfl,hk6⟩:=row_slice hown6;have hmap6:=(hmap2.alloc (.cells #[.int .i64 (i:Int)] 3)).kept hgrow6 (map_ne (hmap2.alloc (.cells #[.int .i64 (i:Int)] 3)) (hrow2.alloc (.cells #[.int .i64 (i:Int)] 3)));have hB6:Aw.Bel w.heap.size w w6:=hB.trans ((hB1.le hws).trans ((hB2.le (Ao hws hB1.size)).trans ((Aw.Bel.alloc _ (Ao (Ao hws hB1.size) hB2.size)).trans ⟨hgrow6.os,hgrow6.output,hgrow6.size,λc hc=>hgrow6.block c (by have:=hB1.size;have:=hB2.size;simp;omega) (λe=>by
     have:=(hrow2.lt c e.symm).1;omega)⟩)))
    go_wp2
    go_roundw
    case rel=>
     refine⟨i+1,xs++[(i:Int)],a6,k6,by simp,by simp,by simp;omega,hil,⟨by simp;omega,λx hx=>by { rcases Ak.1 hx with h|h;{ exact HXB.out x h };{ simp at h;omega } }⟩,λj hj' hji he=> ?_,by simpa using hown6,hmap6,hB6⟩;by_cases e:j=i
     ·subst e;simp
     ·exact B0 _ (HIN.out j hj' (by omega) he)
    case measure=>simp[intOf];omega
   ·go_roundw
    case rel=>
     refine⟨i+1,xs,av,kv,by simp,rfl,hkv,hil,⟨by omega,HXB.out⟩,λj hj' hji he=> ?_,hrow2,hmap2,hB.trans ((hB1.le hws).trans (hB2.le (Ao hws hB1.size)))⟩;by_cases e:j=i
     ·subst e;have:=hr (HEQ.out he);simp_all
     ·exact HIN.out j hj' (by omega) he
    case measure=>simp[intOf];omega
  ·have hie:i=d.length:=(by omega);subst hie;clear hread hdw
   go_wp2_with (first|(go_at_call 34;refine(clip34 _ _ _ _ hkv).mono ?_;rintro e w1 ⟨rfl,rfl⟩)|go_in)
   go_ret
   exact⟨⟨av,kv,xs,rfl,hrow,hxl,HXB.out,λi hi=>hin i hi hi,hB⟩⟩
end Ho
end
section
open Go.RowKit
namespace M78
structure gX where(kind:Int)
def g:Sg gX:=⟨[cB],[],λa b=>⟨a.1⟩,λx=>(x.kind,()),λx=>()⟩
abbrev fY:=Int×Int
def f:Ft fY:=⟨none,.tup [.inl (iI),.inl (iI)],[],λa b=>(a.1,a.2.1),λy=>(y.1,(y.2,())),λy=>()⟩
def fan:List (Int×Int):=[(0,0),(0,0),(0,0),(1,1),(1,1),(2,16),(2,16),(2,16),(2,16),(2,16),(2,16),(3,3),(2,2),(1,16),(1,1),(0,0)]
def m(x:gX):Option fY:=if 0<=x.kind/\x.kind<16 then some (fan.getD x.kind.toNat (0,0)) else none
def callable78:Xn prog 78:=⟨Tryz.f78,Tryz.func78,by kernel_rfl,by kernel_rfl⟩
def tab_at{O:Map}{w:World}(h:XZ O w){k:Nat}(hk:k<16):w.cell? ⟨0,k*2,none⟩=some (.int .i64 (fan.getD k (0,0)).1)/\w.cell? ⟨0,k*2+1,none⟩=some (.int .i64 (fan.getD k (0,0)).2):=by
 have h0:TR O.un w (.iptr (fan.flatMap λx=>[T.int .i64 x.1,T.int .i64 x.2])) (.pointer (some ⟨0,0,none⟩)):=h 0 _ _ rfl;generalize hc:(fan.flatMap λx=>[T.int .i64 x.1,T.int .i64 x.2])=cs at h0
 cases h0 with
 |iptr _ _ _ f _ _ h1 h2=>have hl:cs.length=32:=(by rw[<-hc];rfl);have g:∀i (hi:i<32) n,cs[i]? =some (T.int .i64 n)->w.cell? ⟨0,i,none⟩=some (.int .i64 n):=λi hi n e=>(by have e1:=h1 i (by omega);have e2:=h2 i (by omega);rw[(AD.1 e).2]at e2;rw[AF]at e1;rw[e1];generalize f i=v at e2;cases e2;rfl);have e:k=0\/k=1\/k=2\/k=3\/k=4\/k=5\/k=6\/k=7\/k=8\/k=9\/k=10\/k=11\/k=12\/k=13\/k=14\/k=15:=(by omega);rcases e with rfl|rfl|rfl|rfl|rfl|rfl|rfl|rfl|rfl|rfl|rfl|rfl|rfl|rfl|rfl|rfl<;>exact⟨g _ (by decide) _ (by rw[<-hc];rfl),g _ (by decide) _ (by rw[<-hc];rfl)⟩
def walk78{O:Map}(w:World)(h:XZ O w)(k:Nat)(hk:k<16):Calls prog 78 #[.int .u8 (k:Int)] w λe w'=>e=.returned (.tuple #[.int .i64 (fan.getD k (0,0)).1,.int .i64 (fan.getD k (0,0)).2])/\Aw.Bel w.heap.size w w':=by
 obtain⟨c0,c1⟩:=tab_at h hk
 go_enter Tryz.func78,Tryz.ntmps78
 generalize fan.getD k (0,0)=fk at*
 go_wp2
 go_region
 all_goals
  go_wp2
  refine BO (results_tmp2 rfl _ _ _) rfl ?_;exact⟨rfl,rfl,rfl,A5 _,λ_ _=>rfl⟩
def known:QQ prog 78 g f m:=by
 refine⟨λ_ _=>⟨rfl,rfl⟩,by decide,λ⟨k⟩ y h=> ?_⟩;by_cases hk:0<=k/\k<16
 ·have h:(if 0<=k/\k<16 then some (fan.getD k.toNat (0,0)) else none)=some y:=h;rw[AC hk]at h;obtain rfl:=BA h;obtain⟨i,rfl⟩:∃i:Nat,k=i:=⟨k.toNat,by omega⟩;refine Aw.fn_bel callable78 λO w cargs hg hH ha=>⟨.tuple #[.int .i64 (fan.getD i (0,0)).1,.int .i64 (fan.getD i (0,0)).2],λw'=>⟨_,rfl,rfl,λj hj=> ?_⟩,?_⟩
  ·have hj:j<2:=hj;rcases (show j=0\/j=1 by omega) with rfl|rfl<;>exact⟨_,rfl,TR.int _ _⟩
  obtain⟨u,e0,hv⟩:=ha.2 0 Nat.one_pos;have hv:TR O.un w (.int .u8 (i:Int)) u:=hv;cases hv;have hc:cargs= #[.int .u8 (i:Int)]:=(by have h1:cargs.size=1:=ha.1;refine Cc h1 λj hj _=> ?_;obtain rfl:j=0:=(by omega);exact(A8.1 e0).2);rw[hc];exact walk78 w hg i (by omega)
 ·have h:(if 0<=k/\k<16 then some (fan.getD k.toNat (0,0)) else none)=some y:=h;rw[AK hk]at h;cases h
end M78
end
namespace M44
structure gX where(kind:Int)(l:TI)
def g:Sg gX:=⟨[cB,cU],[],λa b=>⟨a.1,a.2.1⟩,λx=>(x.kind,(x.l,())),λx=>()⟩
abbrev fY:=Int
def f:Ft fY:=⟨none,cB,[],λa b=>(a),λy=>y,λy=>()⟩
def m(x:gX):Option fY:=bindO (M78.m ⟨x.kind⟩) λy=>bif bif decide ((x.l.length:Int)<y.1) then true else decide ((x.l.length:Int)>y.2) then some 2 else bif x.kind==1 then some 0 else bif x.kind==2 then some 1 else bif x.kind==3 then bif inR 0 x.l.length then bindO (M79.m ⟨x.l[0]?.getD 0⟩) λy=>some y else none else bif x.kind==4 then bif inR 0 x.l.length then bindO (M80.m ⟨x.l[0]?.getD 0⟩) λy=>some y else none else bif x.kind==5 then bindO (M81.m ⟨x.l⟩) λy=>some y else bif x.kind==6 then bindO (M81.m ⟨x.l⟩) λy=>bindO (M80.m ⟨y⟩) λy=>some y else bif x.kind==7 then bindO (M82.m ⟨x.l⟩) λy=>some y else bif x.kind==8 then bindO (M82.m ⟨x.l⟩) λy=>bindO (M80.m ⟨y⟩) λy=>some y else bif x.kind==9 then bindO (M83.m ⟨x.l⟩) λy=>some y else bif x.kind==10 then bindO (M83.m ⟨x.l⟩) λy=>bindO (M80.m ⟨y⟩) λy=>some y else bif x.kind==11 then bif inR 0 x.l.length then bif inR 1 x.l.length then bif inR 2 x.l.length then bindO (M84.m ⟨x.l[0]?.getD 0,x.l[1]?.getD 0,x.l[2]?.getD 0⟩) λy=>some y else none else none else none else bif x.kind==12 then bif inR 0 x.l.length then bif inR 1 x.l.length then bindO (M85.m ⟨x.l[0]?.getD 0,x.l[1]?.getD 0⟩) λy=>some y else none else none else bif x.kind==13 then bindO (M86.m ⟨x.l⟩) λy=>some y else some 2
def known:QQ prog 44 g f m:=
 kc0 [ck M78.known,ck M79.known,ck M80.known,ck M81.known,ck M82.known,ck M83.known,ck M84.known,ck M85.known,ck M86.known] s44
end M44
namespace Co
def w64{x:Int}(h: -9223372036854775808<=x)(h':x<=9223372036854775807):i64.wrap x=x:=by simp[IntKind.wrap,IntKind.signed,IntKind.bits];omega
def inR_nat{i n:Nat}(h:i<n):inR (i:Int) n=true:=by simp[inR];omega
def getD_at{α:Type}{l:List α}{i:Nat}(h:i<l.length)(d:α):l[(i:Int).toNat]?.getD d=l[i]:=by simp[h]
def suc{i:Nat}(h:i<9000000000000000000):i64.wrap ((i:Int)+1)=((i+1:Nat):Int):=by rw[w64 (by omega) (by omega)];omega
def iter_any{X Y α:Type}{step:X->Option (X⊕Y)}(S:Nat->X)(l:List α)(P:α->Bool)(Z:Nat->Y){y:Y}
  (h:∀i (hi:i<l.length),step (S i)=some (if P l[i]=true then .inr (Z i) else .inl (S (i+1)))) (he:step (S l.length)=some (.inr y)):
  (l.any P=true/\∃i:Nat,iter step (S 0)=some (Z i))\/(l.any P=false/\iter step (S 0)=some y):=by
 have:∀j i,i+j=l.length->((l.drop i).any P=true/\∃t:Nat,iter step (S i)=some (Z t))\/((l.drop i).any P=false/\iter step (S i)=some y):=by
  intro j
  induction j with
  |zero=>intro i hi;have e:i=l.length:=(by omega);subst e;exact .inr ⟨by rw[List.drop_length];rfl,by rw[iter_eq,he]⟩
  |succ j ih=>
   intro i hi;have hil:i<l.length:=(by omega);rw[Cl hil,List.any_cons,iter_eq,h i hil]
   cases hP:P l[i] with
   |true=>exact .inl ⟨by simp,i,rfl⟩
   |false=>simp only[Ab,Al,Bool.false_or];exact ih (i+1) (by omega)
 have h:=this l.length 0 (by omega);rwa [AW]at h
def m118(l:List Int)(low high:Int)(hl:l.length<=1000000):∃v,M118.m ⟨l,low,high⟩=some v/\(v=low\/v=2\/v=high):=by
 obtain⟨y,h1,h2⟩:=iter_inv (step:=M118.s0) (λx=>x.low=low/\x.high=high/\x.l=l/\x.n=(l.length:Int)/\∃k:Nat,x.i=(k:Int)/\k<=l.length/\(x.out=2\/x.out=high)) (λx=>l.length - x.i.toNat)
  (λy=>match y with|.inl q=>q.out=2\/q.out=high|.inr z=>z.r=low) (by
   rintro⟨lo,hg,out,l',n,i⟩ ⟨h1,h2,h3,h4,k,h5,hk,ho⟩;obtain rfl:lo=low:=h1;obtain rfl:hg=high:=h2;obtain rfl:l'=l:=h3;obtain rfl:n=(l'.length:Int):=h4;obtain rfl:i=(k:Int):=h5;have ho:out=2\/out=hg:=ho;unfold M118.s0;by_cases hlt:k<l'.length
   ·have e1:decide ((k:Int)<(l'.length:Int))=true:=AB (by omega);simp only[e1,inR_nat hlt,getD_at hlt,A6,suc (i:=k) (by omega)];by_cases e2:l'[k]=lo
    ·exact⟨.inr (.inr ⟨lo⟩),by rw[BU.2 e2,A6],rfl⟩
    ·refine⟨.inl ⟨lo,hg,bif l'[k] !=hg then 2 else out,l',(l'.length:Int),((k+1:Nat):Int)⟩,by rw[Ag.2 e2,A7],⟨rfl,rfl,rfl,rfl,k+1,rfl,hlt,?_⟩,by simp;omega⟩;show(bif l'[k] !=hg then (2:Int) else out)=2\/(bif l'[k] !=hg then (2:Int) else out)=hg
     cases (l'[k] !=hg) with
     |true=>exact .inl rfl
     |false=>exact ho
   ·have e1:decide ((k:Int)<(l'.length:Int))=false:=AM (by omega);simp only[e1,A7];exact⟨.inr (.inl ⟨out⟩),rfl,ho⟩) ⟨low,high,high,l,(l.length:Int),0⟩ ⟨rfl,rfl,rfl,rfl,0,rfl,Af _,.inr rfl⟩
 unfold M118.m;have h1':iter M118.s0 { low:=low,high:=high,out:=high,l:=l,n:=(l.length:Int),i:=0 }=some y:=h1;simp only[h1',bindO]
 cases y with
 |inl q=>exact⟨_,rfl,.inr h2⟩
 |inr z=>exact⟨_,rfl,.inl h2⟩
def iter_find{X Y Z:Type}{step:X->Option (X⊕(Y⊕Z))}(S:Nat->X)(n:Nat)(F:Nat->Z){y:Y}(h:∀k,k<n->step (S k)=some (.inl (S (k+1)))\/step (S k)=some (.inr (.inr (F k))))(he:step (S n)=some (.inr (.inl y))):
  ∃s,iter step (S 0)=some s/\(s=.inl y\/∃k,k<n/\s=.inr (F k)):=by
 have:∀j i,i+j=n->∃s,iter step (S i)=some s/\(s=.inl y\/∃k,k<n/\s=.inr (F k)):=by
  intro j
  induction j with
  |zero=>intro i hi;have e:i=n:=(by omega);subst e;exact⟨_,by rw[iter_eq,he],.inl rfl⟩
  |succ j ih=>
   intro i hi;rcases h i (by omega) with h1|h1
   ·obtain⟨s,h2,h3⟩:=ih (i+1) (by omega);exact⟨s,by rw[iter_eq,h1];exact h2,h3⟩
   ·exact⟨_,by rw[iter_eq,h1],.inr ⟨i,by omega,rfl⟩⟩
 exact this n 0 (by omega)
abbrev At(r:Int)(n:Nat):Prop:=r= -1\/(0<=r/\r<n)
def m170(l:List Int)(v:Int)(hl:l.length<=1000000):∃r,M170.m ⟨l,v⟩=some r/\At r l.length:=by
 obtain⟨s,h1,h2⟩:=iter_find (step:=M170.s0) (λk=>⟨l,v,(l.length:Int),(k:Int)⟩) l.length (λk=>⟨(k:Int)⟩) (y:=PUnit.unit) (λk hk=>by
   have e1:decide ((k:Int)<(l.length:Int))=true:=AB (by omega);unfold M170.s0;simp only[e1,inR_nat hk,A6,suc (i:=k) (by omega)]
   cases (v==l[(k:Int).toNat]?.getD 0) with
   |true=>exact .inr rfl
   |false=>exact .inl rfl) (by
   have e1:decide ((l.length:Int)<(l.length:Int))=false:=AM (by omega);unfold M170.s0;simp only[e1,A7])
 unfold M170.m;have h1':iter M170.s0 { s:=l,v:=v,n:=(l.length:Int),i:=0 }=some s:=h1;simp only[h1',bindO];rcases h2 with rfl|⟨k,hk,rfl⟩
 ·exact⟨_,rfl,.inl rfl⟩
 ·exact⟨(k:Int),rfl,.inr ⟨by omega,by omega⟩⟩
end Co
namespace M165
structure gX where(Q0:TN)(Q1:TS)(Q4:TM)(Q3:TI)(kind:Int)(inn:TI)(mem bit:Int)
def g:Sg gX:=⟨[.agg cir4,.agg [iB,aI,iI,iI]],[],λa b=>⟨a.1.1,a.1.2.1,a.1.2.2.1,a.1.2.2.2.1,a.2.1.1,a.2.1.2.1,a.2.1.2.2.1,a.2.1.2.2.2.1⟩,λx=>((x.Q0,(x.Q1,(x.Q4,(x.Q3,())))),((x.kind,(x.inn,(x.mem,(x.bit,())))),())),λx=>()⟩
abbrev fY:=Bool
def f:Ft fY:=⟨none,.c (.bo),[],λa b=>(a),λy=>y,λy=>()⟩
def m(x:gX):Option fY:=bif x.kind !=15 then some (bif x.mem==0 then x.bit==0 else false) else bif inR x.mem x.Q4.length||!bif bif decide (x.mem>=0) then decide (x.mem<(x.Q4.length:Int)) else false then decide (x.bit>=0) else false then some (bif bif bif decide (x.mem>=0) then decide (x.mem<(x.Q4.length:Int)) else false then decide (x.bit>=0) else false then decide (x.bit<(↑(List.length (x.Q4[x.mem.toNat]?.getD ([],[],0)).2.1):Int)) else false) else none
def known:QQ prog 165 g f m:=
 kc0 [] s165
end M165
namespace M142
structure gX where(Q0:TN)(Q1:TS)(Q4:TM)(Q3:TI)(kind:Int)(inn:TI)(mem bit:Int)
def g:Sg gX:=⟨[.agg cir4,.agg [iB,aI,iI,iI]],[],λa b=>⟨a.1.1,a.1.2.1,a.1.2.2.1,a.1.2.2.2.1,a.2.1.1,a.2.1.2.1,a.2.1.2.2.1,a.2.1.2.2.2.1⟩,λx=>((x.Q0,(x.Q1,(x.Q4,(x.Q3,())))),((x.kind,(x.inn,(x.mem,(x.bit,())))),())),λx=>()⟩
abbrev fY:=Int
def f:Ft fY:=⟨none,cI,[],λa b=>(a),λy=>y,λy=>()⟩
def m(x:gX):Option fY:=bindO (M78.m ⟨x.kind⟩) λy=>bif decide (x.kind>15) then some 7 else bif bif decide ((x.inn.length:Int)<y.1) then true else decide ((x.inn.length:Int)>y.2) then some 8 else bindO (M139.m ⟨x.Q0,x.Q1,x.Q4,x.Q3⟩) λy=>bindO (M145a.m ⟨x.inn,y.1,y.2.1,y.2.2.1,y.2.2.2⟩) λy=>bif y.1 then some 1 else bindO (bif x.kind==13 then M145b.m ⟨x.inn,x.Q0,x.Q1,x.Q4,x.Q3⟩ else some (false,[],[],[],[])) λy=>bif bif x.kind==13 then y.1 else false then some 7 else bindO (M165.m ⟨x.Q0,x.Q1,x.Q4,x.Q3,x.kind,x.inn,x.mem,x.bit⟩) λy=>bif !y then some 1 else some 0
def known:QQ prog 142 g f m:=
 kc0 [ck M78.known,⟨139,M139.con,M139.con_ok⟩,⟨145,M145a.con,M145a.con_ok⟩,⟨145,M145b.con,M145b.con_ok⟩,ck M165.known] s142
end M142
namespace Co
def iter_count {X Y : Type} {step : X -> Option (X ⊕ Y)} (S : Nat -> X) {y : Y} : ∀ n : Nat,(∀ i,i < n -> step (S i) = some (.inl (S (i + 1)))) -> step (S n) = some (.inr y) -> iter step (S 0) = some y := by
 have key : ∀ j i n : Nat,i + j = n -> (∀ i,i < n -> step (S i) = some (.inl (S (i + 1)))) -> step (S n) = some (.inr y) -> iter step (S i) = some y := by
   intro j
   induction j with
   | zero => intro i n hi _ he; have e : i = n := by omega
             subst e; rw [iter_eq,he]
   | succ j ih => intro i n hi h he; rw [iter_eq,h i (by omega)]; exact ih (i + 1) n (by omega) h he
 exact λn => key n 0 n (by omega)
abbrev In(n:Nat)(a:Int):Prop:=0<=a/\a<n
def m163{a:Int}{N:List (Int×List Int×Int×Int)}{A:List (List UInt8)}{B:List (List Int×List Int×Int)}{C:List Int}(h:In N.length a):M163.m ⟨a,N,A,B,C⟩=some (false,N,A,B,C):=by unfold M163.m;have e1:decide (a<0)=false:=AM (Int.not_lt.2 h.1);have e2:decide (a>=(N.length:Int))=false:=AM (Int.not_le.2 h.2);simp only[e1,e2,A7]
def m145a{s:List Int}{N:List (Int×List Int×Int×Int)}{A:List (List UInt8)}{B:List (List Int×List Int×Int)}{C:List Int}(hl:s.length<=1000000)(h:∀a∈s,In N.length a):M145a.m ⟨s,N,A,B,C⟩=some (false,N,A,B,C):=by
 have key:=iter_count (step:=M168a.s0) (λi=>⟨s,(s.length:Int),(i:Int),N,A,B,C⟩) (y:=.inl ⟨N,A,B,C⟩) s.length (λi hi=>by
  have e1:decide ((i:Int)<(s.length:Int))=true:=AB (by omega);unfold M168a.s0;simp only[e1,inR_nat hi,A6,getD_at hi,m163 (h _ (A9 hi)),bindO,A7,suc (i:=i) (by omega)]) (by
  have e1:decide ((s.length:Int)<(s.length:Int))=false:=AM (by omega);unfold M168a.s0;simp only[e1,A7])
 unfold M145a.m M168a.m;have key':iter M168a.s0 { s:=s,n:=(s.length:Int),i:=0,Q0:=N,Q1:=A,Q4:=B,Q3:=C }=_:=key;simp only[key',bindO,sumC];rfl
end Co
namespace Co
abbrev NodeL:=List (Int×List Int×Int×Int)
def kd(N:NodeL)(a:Int):Int:=(N[a.toNat]?.getD (0,[],0,0)).1
def m164{a:Int}{N:NodeL}{A:List (List UInt8)}{B:List (List Int×List Int×Int)}{C:List Int}(h:In N.length a)(hk:kd N a=12):M164.m ⟨a,N,A,B,C⟩=some (false,N,A,B,C):=by
 unfold M164.m;have e1:inR a N.length=true:=by simp[inR];exact h
 have e2:((N[a.toNat]?.getD (0,[],0,0)).1 !=12)=false:=by rw[show(N[a.toNat]?.getD (0,[],0,0)).1=12 from hk];rfl
 simp only[e1,A6,e2]
def m145b{s:List Int}{N:NodeL}{A:List (List UInt8)}{B:List (List Int×List Int×Int)}{C:List Int}(hl:s.length<=1000000)(h:∀a∈s,In N.length a/\kd N a=12):M145b.m ⟨s,N,A,B,C⟩=some (false,N,A,B,C):=by
 have key:=iter_count (step:=M168b.s0) (λi=>⟨s,(s.length:Int),(i:Int),N,A,B,C⟩) (y:=.inl ⟨N,A,B,C⟩) s.length (λi hi=>by
  have e1:decide ((i:Int)<(s.length:Int))=true:=AB (by omega);have h2:=h _ (A9 hi);unfold M168b.s0;simp only[e1,inR_nat hi,A6,getD_at hi,m164 h2.1 h2.2,bindO,A7,suc (i:=i) (by omega)]) (by
  have e1:decide ((s.length:Int)<(s.length:Int))=false:=AM (by omega);unfold M168b.s0;simp only[e1,A7])
 unfold M145b.m M168b.m;have key':iter M168b.s0 { s:=s,n:=(s.length:Int),i:=0,Q0:=N,Q1:=A,Q4:=B,Q3:=C }=_:=key;simp only[key',bindO,sumC];rfl
def fan(k:Int):Int×Int:=M78.fan.getD k.toNat (0,0)
structure Nd(N:NodeL)(x:Int×List Int×Int×Int):Prop where
 k0:0<=x.1
 k1:x.1<15
 f0:(fan x.1).1<=x.2.1.length
 f1:(x.2.1.length:Int)<=(fan x.1).2
 pins:∀a∈x.2.1,In N.length a
 tri:x.1=13->∀a∈x.2.1,kd N a=12
 mem:x.2.2.1=0
 bit:x.2.2.2=0
 few:x.2.1.length<=1000000
def m142{N:NodeL}{A:List (List UInt8)}{B:List (List Int×List Int×Int)}{C:List Int}{x:Int×List Int×Int×Int}(h:Nd N x):M142.m ⟨N,A,B,C,x.1,x.2.1,x.2.2.1,x.2.2.2⟩=some 0:=by
 obtain⟨k,p,m,b⟩:=x;obtain⟨k0,k1,f0,f1,pins,tri,hm,hb,few⟩:=h;obtain rfl:m=0:=hm;obtain rfl:b=0:=hb;have k0:0<=k:=k0;have k1:k<15:=k1;have e78:M78.m ⟨k⟩=some (fan k):=by unfold M78.m;rw[AC ⟨k0,by show k<16;omega⟩];rfl
 have e1:decide (k>15)=false:=AM (by omega);have e2:decide ((p.length:Int)<(fan k).1)=false:=AM (Int.not_lt.2 f0);have e3:decide ((p.length:Int)>(fan k).2)=false:=AM (Int.not_lt.2 f1);have e4:M139.m ⟨N,A,B,C⟩=some (N,A,B,C):=rfl;have e5:M165.m ⟨N,A,B,C,k,p,0,0⟩=some true:=by unfold M165.m;have:(k !=15)=true:=(by simp;omega);rw[this];rfl
 unfold M142.m;simp only[e78,bindO,e1,A7,e2,e3,e4,m145a few pins,e5];by_cases h13:k=13
 ·subst h13;simp only[m145b few (λa ha=>⟨pins a ha,tri rfl a ha⟩)];rfl
 ·have:(k==13)=false:=(by simp;exact h13);simp only[this,A7];rfl
end Co
namespace Aw
def fn_bel2{f:FuncId}{args:List AV}{v:AV}(hc:Xn prog f)
  (h:∀O w cargs,HR O [] w->KX O w args cargs->Calls prog f cargs w λe w'=>(∃cv,e=.returned cv/\VR O w' v cv)/\Bel w.heap.size w w'):
  Jw prog f args [] λu τ=>u=v/\τ=[]:=by
 refine⟨hc,λO w cargs _ hH ha=> ?_⟩;refine Bt (callsIn_wide.2 (h O w cargs hH ha)) λe w' ⟨⟨cv,he,hv⟩,hb⟩=> ?_;have hs:Step O [] w O [] w':=⟨A5 _,hb.size,hb.os,hb.out,λid s h1=>⟨s,h1,A5 _,λ_=>rfl⟩,λid _ h1=>h1,λid s l h1 h2=>.inr ⟨id,s,l,h1,h2,rfl⟩,rfl,rfl,λb hr=>hb.block b (hH.resRow b hr).lt,λb h1 _=>hb.block b h1⟩;refine⟨v,[],O,cv,he,⟨rfl,rfl⟩,hv,⟨λid s h1=> ?_,hH.inj,λb hr=> ?_,hH.resNo⟩,hs⟩
 ·obtain⟨o,h2,_⟩:=hH.obj id s h1;simp at h2
 ·obtain⟨c,e,fr,h2⟩:=hH.resRow b hr;exact⟨c,e,fr,(hb.block b (A8.1 h2).1).trans h2⟩
def un_new{O:Map}{w:World}(hH:HR O [] w){b:Nat}(hb:w.heap.size<=b):O.un b:=λhm=>by
 rcases hm with ⟨id,s,l,h1,h2,h3⟩|hr
 ·obtain⟨o,h4,_⟩:=hH.obj id s h1;simp at h4
 ·have:=(hH.resRow b hr).lt;omega
def args_four{O:Map}{w:World}{a b c d:Cell}{cargs:Array Value}(ha:KX O w [.agg [a,b,c,d]] cargs):∃v0 v1 v2 v3,cargs= #[.agg #[v0,v1,v2,v3]]/\CR O w a v0/\CR O w b v1/\CR O w c v2/\CR O w d v3:=by
 obtain⟨u,e0,arr,rfl,hsz,hv⟩:=ha.2 0 Nat.one_pos;have hsz:arr.size=4:=hsz;obtain⟨v0,q0,t0⟩:=hv 0 (show 0<4 by omega);obtain⟨v1,q1,t1⟩:=hv 1 (show 1<4 by omega);obtain⟨v2,q2,t2⟩:=hv 2 (show 2<4 by omega);obtain⟨v3,q3,t3⟩:=hv 3 (show 3<4 by omega);refine⟨v0,v1,v2,v3,?_,t0,t1,t2,t3⟩;have harr:arr= #[v0,v1,v2,v3]:=by
  refine Cc (by rw[hsz];rfl) λj hj _=> ?_;have hj:j<4:=(by omega);rcases (show j=0\/j=1\/j=2\/j=3 by omega) with rfl|rfl|rfl|rfl
  ·exact(A8.1 q0).2
  ·exact(A8.1 q1).2
  ·exact(A8.1 q2).2
  ·exact(A8.1 q3).2
 have h1:cargs.size=1:=ha.1;refine Cc h1 λj hj _=> ?_;obtain rfl:j=0:=by omega
 rw[<-harr];exact(A8.1 e0).2
end Aw
namespace M106
structure gX where(Q0:List ((Int)×(List (Int))×(Int)×Int))(Q1:List (List UInt8))(Q4:List ((List (Int))×(List (Int))×Int))(Q3:List (Int))
def g:Sg gX:=⟨[.agg cir4],[],λa b=>⟨a.1.1,a.1.2.1,a.1.2.2.1,a.1.2.2.2.1⟩,λx=>((x.Q0,(x.Q1,(x.Q4,(x.Q3,())))),()),λx=>()⟩
abbrev fY:=List (List (Int×Int))
def f:Ft fY:=⟨none,.c (.arr (.sl (.pair (.int .i64) (.int .i64)))),[],λa b=>(a),λy=>y,λy=>()⟩
def m(x:gX):Option fY:=if x.Q0.length<=100/\∀y∈x.Q0,y.2.1.length<=100 then some ((List.range x.Q0.length).map λn=>readers n x.Q0 0) else none
def callable106:Xn prog 106:=⟨Tryz.f106,Tryz.func106,by kernel_rfl,by kernel_rfl⟩
def known:QQ prog 106 g f m:=by
 refine⟨λ_ _=>⟨rfl,rfl⟩,by decide,λ⟨Q0,Q1,Q4,Q3⟩ y h=> ?_⟩;by_cases hk:Q0.length<=100/\∀y∈Q0,y.2.1.length<=100
 ·have h:(if Q0.length<=100/\∀y∈Q0,y.2.1.length<=100 then some ((List.range Q0.length).map λn=>readers n Q0 0) else none)=some y:=h;rw[AC hk]at h;obtain rfl:=BA h;refine Aw.fn_bel2 callable106 λO w cargs hH ha=> ?_;obtain⟨v0,v1,v2,v3,rfl,t0,_,_,_⟩:=Aw.args_four ha;have t0:TR O.un w (.imm (Q0.flatMap (Ly.trees Fo.ndL)) Q0.length none) v0:=t0;refine(Fo.fan_walk w v0 v1 v2 v3 Q0 (Fo.nodes_read t0) hk.1 hk.2).mono ?_;rintro e w' ⟨g,rv,rfl,hF,hB⟩;exact⟨⟨_,rfl,hF.tree (U:=O.un) λb hb=>Aw.un_new hH hb⟩,hB⟩
 ·have h:(if Q0.length<=100/\∀y∈Q0,y.2.1.length<=100 then some ((List.range Q0.length).map λn=>readers n Q0 0) else none)=some y:=h;rw[AK hk]at h;cases h
end M106
namespace M113
structure gX where(Q0:TN)(Q1:TS)(Q4:TM)(Q3:TI)
def g:Sg gX:=⟨[.agg cir4],[],λa b=>⟨a.1.1,a.1.2.1,a.1.2.2.1,a.1.2.2.2.1⟩,λx=>((x.Q0,(x.Q1,(x.Q4,(x.Q3,())))),()),λx=>()⟩
abbrev fY:=Int
def f:Ft fY:=⟨none,cI,[],λa b=>(a),λy=>y,λy=>()⟩
def cl:List CK:=[ck M142.known,ck M143.known,⟨139,M139.con,M139.con_ok⟩,⟨145,M145a.con,M145a.con_ok⟩]
structure p1X where(ms:TM)(n i:Int)(Q0:TN)(Q1:TS)(Q4:TM)(Q3:TI)
def p1:Pt p1X:=⟨[],⟨[(1,cP),(55,.c (aM)),(56,cI),(57,cI)],[oC]⟩,λ((_,a,b,c,_),(d,e,f,g,_),_)=>⟨a,b,c,d,e,f,g⟩,λx=>(((),(x.ms,(x.n,(x.i,())))),((x.Q0,(x.Q1,(x.Q4,(x.Q3,())))),()))⟩
structure q1X where(Q0:TN)(Q1:TS)(Q4:TM)(Q3:TI)
def q1:Pt q1X:=⟨[],⟨[(1,cP)],[oC]⟩,λ(_,(a,b,c,d,_),_)=>⟨a,b,c,d⟩,λx=>(((),()),((x.Q0,(x.Q1,(x.Q4,(x.Q3,())))),()))⟩
structure z1X where(r:Int)
def z1:Pt z1X:=⟨[],⟨[(2,cI)],[]⟩,λv=>⟨v.1.1⟩,λx=>((x.r,()),())⟩
def s1(x:p1X):Option (p1X⊕(q1X⊕z1X)):=bif decide (x.i<x.n) then bif inR x.i x.ms.length then none else none else some (inr (inl ⟨x.Q0,x.Q1,x.Q4,x.Q3⟩))
def l1:QT:=JW 0 p1 (.exit 3) q1 .ret z1 s1
def l1_ok  :QO prog 73 none 0 (C113.QR 1) l1:=lc2 cl 2 (λ_=>none) QX.nil
structure p0X where(ns:TN)(n i:Int)(Q0:TN)(Q1:TS)(Q4:TM)(Q3:TI)
def p0:Pt p0X:=⟨[],⟨[(1,cP),(36,.c (aN)),(37,cI),(38,cI)],[oC]⟩,λ((_,a,b,c,_),(d,e,f,g,_),_)=>⟨a,b,c,d,e,f,g⟩,λx=>(((),(x.ns,(x.n,(x.i,())))),((x.Q0,(x.Q1,(x.Q4,(x.Q3,())))),()))⟩
structure q0X where(Q0:TN)(Q1:TS)(Q4:TM)(Q3:TI)
def q0:Pt q0X:=⟨[],⟨[(1,cP)],[oC]⟩,λ(_,(a,b,c,d,_),_)=>⟨a,b,c,d⟩,λx=>(((),()),((x.Q0,(x.Q1,(x.Q4,(x.Q3,())))),()))⟩
structure z0X where(r:Int)
def z0:Pt z0X:=⟨[],⟨[(2,cI)],[]⟩,λv=>⟨v.1.1⟩,λx=>((x.r,()),())⟩
def s0(x:p0X):Option (p0X⊕(q0X⊕z0X)):=bif decide (x.i<x.n) then bif inR x.i x.ns.length then bindO (M142.m ⟨x.Q0,x.Q1,x.Q4,x.Q3,(x.ns[x.i.toNat]?.getD (0,[],0,0)).1,(x.ns[x.i.toNat]?.getD (0,[],0,0)).2.1,(x.ns[x.i.toNat]?.getD (0,[],0,0)).2.2.1,(x.ns[x.i.toNat]?.getD (0,[],0,0)).2.2.2⟩) λy=>bif y !=0 then some (inr (inr ⟨y⟩)) else some (inl ⟨x.ns,x.n,i64.wrap (x.i+1),x.Q0,x.Q1,x.Q4,x.Q3⟩) else none else some (inr (inl ⟨x.Q0,x.Q1,x.Q4,x.Q3⟩))
def l0:QT:=JW 0 p0 (.exit 1) q0 .ret z0 s0
def l0_ok  :QO prog 73 none 0 (C113.QR 0) l0:=lc2 cl 1 (J2 [(1,l1)]) QX.nil
def m(x:gX):Option fY:=bif bif bif decide ((x.Q0.length:Int)>16384) then true else decide ((x.Q4.length:Int)>16) then true else decide ((x.Q3.length:Int)>16384) then some 3 else bif (x.Q1.length:Int) !=(x.Q0.length:Int) then some 8 else bindO (iter s0 ⟨x.Q0,(x.Q0.length:Int),0,x.Q0,x.Q1,x.Q4,x.Q3⟩) λs=>sumC s (λy=>bindO (M143.m ⟨y.Q0,y.Q1,y.Q4,y.Q3⟩) λy_1=>bif y_1 !=0 then some y_1 else bindO (iter s1 ⟨y.Q4,(y.Q4.length:Int),0,y.Q0,y.Q1,y.Q4,y.Q3⟩) λs=>sumC s (λy=>bindO (M139.m ⟨y.Q0,y.Q1,y.Q4,y.Q3⟩) λy_2=>bindO (M145a.m ⟨y.Q3,y_2.1,y_2.2.1,y_2.2.2.1,y_2.2.2.2⟩) λy=>bif y.1 then some 1 else some 0) λz=>some z.r) λz=>some z.r
def known:QQ prog 113 g f m:=
 kc cl s113 (J2 [(0,l0),(1,l1)]) (ac 0 l0_ok (ac 1 l1_ok QX.nil))
end M113
namespace M71
structure gX where(Q0:TN)(Q1:TS)(Q4:TM)(Q3:TI)
def g:Sg gX:=⟨[.agg cir4],[],λa b=>⟨a.1.1,a.1.2.1,a.1.2.2.1,a.1.2.2.2.1⟩,λx=>((x.Q0,(x.Q1,(x.Q4,(x.Q3,())))),()),λx=>()⟩
abbrev fY:=TI×Int
def f:Ft fY:=⟨none,.tup [.inl (aI),.inl (iI)],[],λa b=>(a.1,a.2.1),λy=>(y.1,(y.2,())),λy=>()⟩
def cl:List CK:=[ck M113.known,ck M43.known,ck M106.known]
structure p2X where(QC Q8 Qj Qh Qq J3 Qp Qg:Nat)(fan:List (List ((Int)×Int)))(done k:Int)(l:List ((Int)×Int))(n i:Int)(Q0:TN)(Q1:TS)(Q4:TM)(Q3 lev lft rdy:TI)
def p2:Pt p2X:=⟨[],⟨[(1,cP),(5,.c (.slc 1 0 1)),(6,.c (.slc 2 0 1)),(7,.c (.sl 3 0 1)),(10,.c (.arr (.sl (.pair lI lI)))),(11,cI),(12,cI),(76,.c (.arr (.pair lI lI))),(77,cI),(78,cI)],[oC,oI,oI,oI]⟩,λ((_,(a,b,c),(d,e,f),(g,h),i,j,k,l,m,n,_),(o,p,q,r,_),s,t,u,_)=>⟨a,b,c,d,e,f,g,h,i,j,k,l,m,n,o,p,q,r,s,t,u⟩,λx=>(((),((x.QC,x.Q8,x.Qj),((x.Qh,x.Qq,x.J3),((x.Qp,x.Qg),(x.fan,(x.done,(x.k,(x.l,(x.n,(x.i,())))))))))),((x.Q0,(x.Q1,(x.Q4,(x.Q3,())))),(x.lev,(x.lft,(x.rdy,())))))⟩
structure q2X where(QC Q8 Qj Qh Qq J3 Qp Qg:Nat)(fan:List (List ((Int)×Int)))(done:Int)(Q0:TN)(Q1:TS)(Q4:TM)(Q3 lev lft rdy:TI)
def q2:Pt q2X:=⟨[],⟨[(1,cP),(5,.c (.slc 1 0 1)),(6,.c (.slc 2 0 1)),(7,.c (.sl 3 0 1)),(10,.c (.arr (.sl (.pair lI lI)))),(11,cI)],[oC,oI,oI,oI]⟩,λ((_,(a,b,c),(d,e,f),(g,h),i,j,_),(k,l,m,n,_),o,p,q,_)=>⟨a,b,c,d,e,f,g,h,i,j,k,l,m,n,o,p,q⟩,λx=>(((),((x.QC,x.Q8,x.Qj),((x.Qh,x.Qq,x.J3),((x.Qp,x.Qg),(x.fan,(x.done,())))))),((x.Q0,(x.Q1,(x.Q4,(x.Q3,())))),(x.lev,(x.lft,(x.rdy,())))))⟩
def s2(x:p2X):Option (p2X⊕q2X):=bif decide (x.i<x.n) then bif inR x.i x.l.length then bif inR (x.l[x.i.toNat]?.getD (0,0)).1 x.Q0.length then bindO (M43.m ⟨(x.Q0[Int.toNat (x.l[x.i.toNat]?.getD (0,0)).1]?.getD (0,[],0,0)).1⟩) λy=>bif !y then some (inl ⟨x.QC,x.Q8,x.Qj,x.Qh,x.Qq,x.J3,x.Qp,x.Qg,x.fan,x.done,x.k,x.l,x.n,i64.wrap (x.i+1),x.Q0,x.Q1,x.Q4,x.Q3,x.lev,x.lft,x.rdy⟩) else bif inR (x.l[x.i.toNat]?.getD (0,0)).1 x.Q8 then bif decide (x.QC+Int.toNat (x.l[x.i.toNat]?.getD (0,0)).1<x.lev.length) then bif inR x.k x.Q8 then bif decide (x.QC+x.k.toNat<x.lev.length) then bif inR (x.l[x.i.toNat]?.getD (0,0)).1 x.Q8 then bif decide (x.QC+Int.toNat (x.l[x.i.toNat]?.getD (0,0)).1<x.lev.length) then bif inR (x.l[x.i.toNat]?.getD (0,0)).1 x.Qq then bif decide (x.Qh+Int.toNat (x.l[x.i.toNat]?.getD (0,0)).1<x.lft.length) then bif inR (x.l[x.i.toNat]?.getD (0,0)).1 x.Qq then bif decide (x.Qh+Int.toNat (x.l[x.i.toNat]?.getD (0,0)).1<x.lft.length) then bif inR (x.l[x.i.toNat]?.getD (0,0)).1 x.Qq then bif decide (x.Qh+Int.toNat (x.l[x.i.toNat]?.getD (0,0)).1<(x.lft.set (x.Qh+Int.toNat (x.l[x.i.toNat]?.getD (0,0)).1) (i64.wrap (x.lft[x.Qh+Int.toNat (x.l[x.i.toNat]?.getD (0,0)).1]?.getD 0 - 1))).length) then bif (x.lft.set (x.Qh+Int.toNat (x.l[x.i.toNat]?.getD (0,0)).1) (i64.wrap (x.lft[x.Qh+Int.toNat (x.l[x.i.toNat]?.getD (0,0)).1]?.getD 0 - 1)))[x.Qh+Int.toNat (x.l[x.i.toNat]?.getD (0,0)).1]?.getD 0==0 then bif eqN x.Qp 0&&eqN x.rdy.length x.Qg&&J1 (x.Qg+1) 8 then some (inl ⟨x.QC,x.Q8,x.Qj,x.Qh,x.Qq,x.J3,0,x.Qg+1,x.fan,x.done,x.k,x.l,x.n,i64.wrap (x.i+1),x.Q0,x.Q1,x.Q4,x.Q3,x.lev.set (x.QC+Int.toNat (x.l[x.i.toNat]?.getD (0,0)).1) (if i64.wrap (x.lev[x.QC+x.k.toNat]?.getD 0+1)>x.lev[x.QC+Int.toNat (x.l[x.i.toNat]?.getD (0,0)).1]?.getD 0 then i64.wrap (x.lev[x.QC+x.k.toNat]?.getD 0+1) else x.lev[x.QC+Int.toNat (x.l[x.i.toNat]?.getD (0,0)).1]?.getD 0),x.lft.set (x.Qh+Int.toNat (x.l[x.i.toNat]?.getD (0,0)).1) (i64.wrap (x.lft[x.Qh+Int.toNat (x.l[x.i.toNat]?.getD (0,0)).1]?.getD 0 - 1)),x.rdy++[(x.l[x.i.toNat]?.getD (0,0)).1]⟩) else none else some (inl ⟨x.QC,x.Q8,x.Qj,x.Qh,x.Qq,x.J3,x.Qp,x.Qg,x.fan,x.done,x.k,x.l,x.n,i64.wrap (x.i+1),x.Q0,x.Q1,x.Q4,x.Q3,x.lev.set (x.QC+Int.toNat (x.l[x.i.toNat]?.getD (0,0)).1) (if i64.wrap (x.lev[x.QC+x.k.toNat]?.getD 0+1)>x.lev[x.QC+Int.toNat (x.l[x.i.toNat]?.getD (0,0)).1]?.getD 0 then i64.wrap (x.lev[x.QC+x.k.toNat]?.getD 0+1) else x.lev[x.QC+Int.toNat (x.l[x.i.toNat]?.getD (0,0)).1]?.getD 0),x.lft.set (x.Qh+Int.toNat (x.l[x.i.toNat]?.getD (0,0)).1) (i64.wrap (x.lft[x.Qh+Int.toNat (x.l[x.i.toNat]?.getD (0,0)).1]?.getD 0 - 1)),x.rdy⟩) else none else none else none else none else none else none else none else none else none else none else none else none else none else none else some (inr ⟨x.QC,x.Q8,x.Qj,x.Qh,x.Qq,x.J3,x.Qp,x.Qg,x.fan,x.done,x.Q0,x.Q1,x.Q4,x.Q3,x.lev,x.lft,x.rdy⟩)
def l2:QT:=Qa 0 p2 (.exit 4) q2 s2
def l2_ok  :QO prog 131 none 0 (C71.QR 2) l2:=lc cl 3 (λ_=>none) QX.nil
structure p1X where(QC Q8 Qj Qh Qq J3 Qp Qg:Nat)(fan:List (List ((Int)×Int)))(done:Int)(Q0:TN)(Q1:TS)(Q4:TM)(Q3 lev lft rdy:TI)
def p1:Pt p1X:=⟨[],⟨[(1,cP),(5,.c (.slc 1 0 1)),(6,.c (.slc 2 0 1)),(7,.c (.sl 3 0 1)),(10,.c (.arr (.sl (.pair lI lI)))),(11,cI)],[oC,oI,oI,oI]⟩,λ((_,(a,b,c),(d,e,f),(g,h),i,j,_),(k,l,m,n,_),o,p,q,_)=>⟨a,b,c,d,e,f,g,h,i,j,k,l,m,n,o,p,q⟩,λx=>(((),((x.QC,x.Q8,x.Qj),((x.Qh,x.Qq,x.J3),((x.Qp,x.Qg),(x.fan,(x.done,())))))),((x.Q0,(x.Q1,(x.Q4,(x.Q3,())))),(x.lev,(x.lft,(x.rdy,())))))⟩
structure q1X where(out:TI)(done:Int)(Q0:TN)(Q1:TS)(Q4:TM)(Q3:TI)
def q1:Pt q1X:=⟨[],⟨[(1,cP),(5,cA),(11,cI)],[oC]⟩,λ((_,a,b,_),(c,d,e,f,_),_)=>⟨a,b,c,d,e,f⟩,λx=>(((),(x.out,(x.done,()))),((x.Q0,(x.Q1,(x.Q4,(x.Q3,())))),()))⟩
def s1(x:p1X):Option (p1X⊕q1X):=bif decide (x.done<(x.Qg:Int)) then bif inR x.done x.Qg then bif decide (x.Qp+x.done.toNat<x.rdy.length) then bif inR (x.rdy[x.Qp+x.done.toNat]?.getD 0) x.fan.length then bif (↑(List.length (x.fan[Int.toNat (x.rdy[x.Qp+x.done.toNat]?.getD 0)]?.getD [])):Int)==0 then some (inl ⟨x.QC,x.Q8,x.Qj,x.Qh,x.Qq,x.J3,x.Qp,x.Qg,x.fan,i64.wrap (x.done+1),x.Q0,x.Q1,x.Q4,x.Q3,x.lev,x.lft,x.rdy⟩) else bif inR (x.rdy[x.Qp+x.done.toNat]?.getD 0) x.fan.length then bindO (iter s2 ⟨x.QC,x.Q8,x.Qj,x.Qh,x.Qq,x.J3,x.Qp,x.Qg,x.fan,i64.wrap (x.done+1),x.rdy[x.Qp+x.done.toNat]?.getD 0,x.fan[Int.toNat (x.rdy[x.Qp+x.done.toNat]?.getD 0)]?.getD [],(↑(List.length (x.fan[Int.toNat (x.rdy[x.Qp+x.done.toNat]?.getD 0)]?.getD [])):Int),0,x.Q0,x.Q1,x.Q4,x.Q3,x.lev,x.lft,x.rdy⟩) λy=>some (inl ⟨y.QC,y.Q8,y.Qj,y.Qh,y.Qq,y.J3,y.Qp,y.Qg,y.fan,y.done,y.Q0,y.Q1,y.Q4,y.Q3,y.lev,y.lft,y.rdy⟩) else none else none else none else none else bif leB (x.QC+x.Q8) x.lev.length&&true&&true then some (inr ⟨List.take x.Q8 (List.drop x.QC x.lev),x.done,x.Q0,x.Q1,x.Q4,x.Q3⟩) else none
def l1:QT:=Qa 0 p1 (.exit 2) q1 s1
def l1_ok  :QO prog 131 none 0 (C71.QR 1) l1:=lc cl 2 (J2 [(2,l2)]) (ac 2 l2_ok QX.nil)
structure p0X where(QC Q8 Qj Qh Qq J3 Qp Qg:Nat)(ns:TN)(n i:Int)(Q0:TN)(Q1:TS)(Q4:TM)(Q3 lev lft rdy:TI)
def p0:Pt p0X:=⟨[.reg 7 (.int .i64)],⟨[(1,cP),(5,.c (.slc 1 0 1)),(6,.c (.slc 2 0 1)),(7,.c (.sl 3 0 1)),(29,.c (aN)),(30,cI),(31,cI)],[oC,oI,oI,oI]⟩,λ((_,(a,b,c),(d,e,f),(g,h),i,j,k,_),(l,m,n,o,_),p,q,r,_)=>⟨a,b,c,d,e,f,g,h,i,j,k,l,m,n,o,p,q,r⟩,λx=>(((),((x.QC,x.Q8,x.Qj),((x.Qh,x.Qq,x.J3),((x.Qp,x.Qg),(x.ns,(x.n,(x.i,()))))))),((x.Q0,(x.Q1,(x.Q4,(x.Q3,())))),(x.lev,(x.lft,(x.rdy,())))))⟩
structure q0X where(QC Q8 Qj Qh Qq J3 Qp Qg:Nat)(Q0:TN)(Q1:TS)(Q4:TM)(Q3 lev lft rdy:TI)
def q0:Pt q0X:=⟨[],⟨[(1,cP),(5,.c (.slc 1 0 1)),(6,.c (.slc 2 0 1)),(7,.c (.sl 3 0 1))],[oC,oI,oI,oI]⟩,λ((_,(a,b,c),(d,e,f),(g,h),_),(i,j,k,l,_),m,n,o,_)=>⟨a,b,c,d,e,f,g,h,i,j,k,l,m,n,o⟩,λx=>(((),((x.QC,x.Q8,x.Qj),((x.Qh,x.Qq,x.J3),((x.Qp,x.Qg),())))),((x.Q0,(x.Q1,(x.Q4,(x.Q3,())))),(x.lev,(x.lft,(x.rdy,())))))⟩
def s0(x:p0X):Option (p0X⊕q0X):=bif decide (x.i<x.n) then bif inR x.i x.ns.length then bindO (M43.m ⟨(x.ns[x.i.toNat]?.getD (0,[],0,0)).1⟩) λy=>bif y then bif inR x.i x.Qq then bif decide (x.Qh+x.i.toNat<x.lft.length) then bif inR x.i x.Qq then bif decide (x.Qh+x.i.toNat<(x.lft.set (x.Qh+x.i.toNat) (↑(List.length (x.ns[x.i.toNat]?.getD (0,[],0,0)).2.1):Int)).length) then bif (x.lft.set (x.Qh+x.i.toNat) (↑(List.length (x.ns[x.i.toNat]?.getD (0,[],0,0)).2.1):Int))[x.Qh+x.i.toNat]?.getD 0==0 then bif eqN x.Qp 0&&eqN x.rdy.length x.Qg&&J1 (x.Qg+1) 8 then some (inl ⟨x.QC,x.Q8,x.Qj,x.Qh,x.Qq,x.J3,0,x.Qg+1,x.ns,x.n,i64.wrap (x.i+1),x.Q0,x.Q1,x.Q4,x.Q3,x.lev,x.lft.set (x.Qh+x.i.toNat) (↑(List.length (x.ns[x.i.toNat]?.getD (0,[],0,0)).2.1):Int),x.rdy++[x.i]⟩) else none else some (inl ⟨x.QC,x.Q8,x.Qj,x.Qh,x.Qq,x.J3,x.Qp,x.Qg,x.ns,x.n,i64.wrap (x.i+1),x.Q0,x.Q1,x.Q4,x.Q3,x.lev,x.lft.set (x.Qh+x.i.toNat) (↑(List.length (x.ns[x.i.toNat]?.getD (0,[],0,0)).2.1):Int),x.rdy⟩) else none else none else none else none else bif inR x.i x.Qq then bif decide (x.Qh+x.i.toNat<x.lft.length) then bif x.lft[x.Qh+x.i.toNat]?.getD 0==0 then bif eqN x.Qp 0&&eqN x.rdy.length x.Qg&&J1 (x.Qg+1) 8 then some (inl ⟨x.QC,x.Q8,x.Qj,x.Qh,x.Qq,x.J3,0,x.Qg+1,x.ns,x.n,i64.wrap (x.i+1),x.Q0,x.Q1,x.Q4,x.Q3,x.lev,x.lft,x.rdy++[x.i]⟩) else none else some (inl ⟨x.QC,x.Q8,x.Qj,x.Qh,x.Qq,x.J3,x.Qp,x.Qg,x.ns,x.n,i64.wrap (x.i+1),x.Q0,x.Q1,x.Q4,x.Q3,x.lev,x.lft,x.rdy⟩) else none else none else none else some (inr ⟨x.QC,x.Q8,x.Qj,x.Qh,x.Qq,x.J3,x.Qp,x.Qg,x.Q0,x.Q1,x.Q4,x.Q3,x.lev,x.lft,x.rdy⟩)
def l0:QT:=Qa 0 p0 (.exit 0) q0 s0
def l0_ok  :QO prog 131 none 0 (C71.QR 0) l0:=lc cl 1 (J2 [(1,l1),(2,l2)]) QX.nil
def m(x:gX):Option fY:=bindO (M113.m ⟨x.Q0,x.Q1,x.Q4,x.Q3⟩) λy=>bif y !=0 then some ([],y) else bif decide (0<=(x.Q0.length:Int))&&decide ((x.Q0.length:Int)<=(x.Q0.length:Int))&&decide ((x.Q0.length:Int)*(↑8:Int)<=281474976710656)&&decide ((x.Q0.length:Int)<=9223372036854775807) then bif decide (0<=(x.Q0.length:Int))&&decide ((x.Q0.length:Int)<=(x.Q0.length:Int))&&decide ((x.Q0.length:Int)*(↑8:Int)<=281474976710656)&&decide ((x.Q0.length:Int)<=9223372036854775807) then bindO (iter s0 ⟨0,(x.Q0.length:Int).toNat,(x.Q0.length:Int).toNat,0,(x.Q0.length:Int).toNat,(x.Q0.length:Int).toNat,0,0,x.Q0,(x.Q0.length:Int),0,x.Q0,x.Q1,x.Q4,x.Q3,List.replicate (x.Q0.length:Int).toNat (0:Int),List.replicate (x.Q0.length:Int).toNat (0:Int),[]⟩) λy=>bindO (M106.m ⟨y.Q0,y.Q1,y.Q4,y.Q3⟩) λy_1=>bindO (iter s1 ⟨y.QC,y.Q8,y.Qj,y.Qh,y.Qq,y.J3,y.Qp,y.Qg,y_1,0,y.Q0,y.Q1,y.Q4,y.Q3,y.lev,y.lft,y.rdy⟩) λy=>bif decide (y.done<(y.Q0.length:Int)) then some ([],6) else some (y.out,0) else none else none
def known:QQ prog 71 g f m:=
 kc cl s71 (J2 [(0,l0),(1,l1),(2,l2)]) (ac 0 l0_ok (ac 1 l1_ok QX.nil))
end M71
namespace M98
structure gX where(Q0:TN)(Q1:TS)(Q4:TM)(Q3:TI)
def g:Sg gX:=⟨[.agg cir4],[],λa b=>⟨a.1.1,a.1.2.1,a.1.2.2.1,a.1.2.2.2.1⟩,λx=>((x.Q0,(x.Q1,(x.Q4,(x.Q3,())))),()),λx=>()⟩
abbrev fY:=Int
def f:Ft fY:=⟨none,cI,[],λa b=>(a),λy=>y,λy=>()⟩
def m(x:gX):Option fY:=bindO (M71.m ⟨x.Q0,x.Q1,x.Q4,x.Q3⟩) λy=>some y.2
def known:QQ prog 98 g f m:=
 kc0 [ck M71.known] s98
end M98
namespace Co
structure Ck(N:NodeL)(A:List (List UInt8))(C:List Int):Prop where
 some':1<=N.length
 few:N.length<=19
 nd:∀x∈N,Nd N x
 nm:(A=(List.range A.length).map M52.nm/\1<=A.length/\A.length<=20)\/A=[[97],[98],[100],[101]]\/A=[[97],[98],[121]]
 ln:A.length=N.length
 Q3:∀a∈C,In N.length a
 fewC:C.length<=10000
def Ck.len{N:NodeL}{A:List (List UInt8)}{C:List Int}(h:Ck N A C):A.length=N.length:=h.ln
def m143{N:NodeL}{A:List (List UInt8)}{C:List Int}(h:Ck N A C):M143.m ⟨N,A,[],C⟩=some 0:=by unfold M143.m;exact AC h.nm
def m113{N:NodeL}{A:List (List UInt8)}{C:List Int}(h:Ck N A C):M113.m ⟨N,A,[],C⟩=some 0:=by
 have key:=iter_count (step:=M113.s0) (λi=>⟨N,(N.length:Int),(i:Int),N,A,[],C⟩) (y:=.inl ⟨N,A,[],C⟩) N.length (λi hi=>by
  have e1:decide ((i:Int)<(N.length:Int))=true:=AB (by omega);unfold M113.s0;simp only[e1,inR_nat hi,A6,getD_at hi,m142 (h.nd _ (A9 hi)),bindO,suc (i:=i) (by have:=h.few;omega)];rfl) (by
  have e1:decide ((N.length:Int)<(N.length:Int))=false:=AM (by omega);unfold M113.s0;simp only[e1,A7])
 have key':iter M113.s0 { ns:=N,n:=(N.length:Int),i:=0,Q0:=N,Q1:=A,Q4:=[],Q3:=C }=_:=key;have k1:iter M113.s1 { ms:=[],n:=((([]:List (List Int×List Int×Int)).length:Nat):Int),i:=0,Q0:=N,Q1:=A,Q4:=[],Q3:=C }=some (.inl ⟨N,A,[],C⟩):=by rw[iter_eq];rfl
 have f1:decide ((N.length:Int)>16384)=false:=AM (by have:=h.few;omega);have f2:decide ((C.length:Int)>16384)=false:=AM (by have:=h.fewC;omega);have f3:decide (((([]:List (List Int×List Int×Int)).length:Nat):Int)>16)=false:=rfl;have f4:((A.length:Int) !=(N.length:Int))=false:=by rw[h.len];simp
 have f5:M139.m ⟨N,A,[],C⟩=some (N,A,[],C):=rfl;unfold M113.m;simp only[f1,f2,f3,f4,A7,key',bindO,sumC,m143 h,k1,f5,m145a (by have:=h.fewC;omega) h.Q3];rfl
end Co
namespace Co
def pn(N:NodeL)(i:Nat):List Int:=(N[i]?.getD (0,[],0,0)).2.1
def isC(k:Int):Bool:=bif decide (k>=1) then decide (k<=13) else false
def cm(N:NodeL)(i:Nat):Bool:=isC (N[i]?.getD (0,[],0,0)).1
def m43(k:Int):M43.m ⟨k⟩=some (isC k):=rfl
def pinsOf_ok(a i:Nat):∀(l:List Int) (k:Nat),(∀e∈pinsOf a i l k,e.1=(i:Int))/\(pinsOf a i l k).length=l.count (a:Int)
 |[],k=>⟨λe h=>(by cases h),rfl⟩
 |b::l,k=>by
  obtain⟨h1,h2⟩:=pinsOf_ok a i l (k+1);unfold pinsOf;by_cases hb:b=(a:Int)
  ·rw[AC hb,hb,List.count_cons_self];refine⟨λe he=> ?_,by rw[As,h2]⟩;rcases AT.1 he with rfl|he
   ·rfl
   ·exact h1 e he
  ·rw[AK hb,List.count_cons_of_ne hb];exact⟨h1,h2⟩
def cpAll{l:List (Int×Int)}{i:Int}(h:∀e∈l,e.1=i)(j:Int):l.countP (λe=>e.1==j)=if i=j then l.length else 0:=by
 by_cases hj:i=j
 ·rw[AC hj];exact List.countP_eq_length.2 λe he=>by rw[h e he,hj];exact beq_self_eq_true j
 ·rw[AK hj];exact List.countP_eq_zero.2 λe he=>by rw[h e he];simpa using hj
def readers_ok(a:Nat):∀(r:NodeL) (i:Nat),(∀e∈readers a r i,(i:Int)<=e.1/\e.1<((i+r.length:Nat):Int))/\∀j,j<r.length->(readers a r i).countP (λe=>e.1==((i+j:Nat):Int))=(pn r j).count (a:Int)
 |[],i=>⟨λe h=>(by cases h),λj h=>(by cases h)⟩
 |x::r,i=>by
  obtain⟨h1,h2⟩:=readers_ok a r (i+1);obtain⟨p1,p2⟩:=pinsOf_ok a i x.2.1 0;unfold readers;refine⟨λe he=> ?_,λj hj=> ?_⟩
  ·rcases Ak.1 he with he|he
   ·have:=p1 e he;simp only[As];omega
   ·have:=h1 e he;simp only[As];omega
  ·rw[Cq,cpAll p1]
   cases j with
   |zero=>rw[AC (by omega),p2];have:(readers a r (i+1)).countP (λe=>e.1==((i+0:Nat):Int))=0:=List.countP_eq_zero.2 λe he=>(by have:=(h1 e he).1;simp;omega);rw[this];rfl
   |succ j=>rw[AK (by omega),AF,show i+(j+1)=i+1+j by omega,h2 j (by simpa using hj)];rfl
def cp_add{a:Int}{D:List Int}(h:a∉D):∀l:List Int,l.countP (λx=>decide (x∈D++[a]))=l.countP (λx=>decide (x∈D))+l.count a
 |[]=>rfl
 |b::l=>by
  rw[List.countP_cons,List.countP_cons,cp_add h l,List.count_cons];by_cases hb:b=a
  ·subst hb;simp[h];omega
  ·simp only[Ak,Ae,hb,Bu,BU,Al];omega
structure KI(N:NodeL)(D:List Int)(ex:Nat->Nat)(lft rdy:List Int):Prop where
 lf:lft.length=N.length
 rn:rdy.Nodup
 rr:∀a∈rdy,In N.length a
 cnt:∀i,i<N.length->lft[i]?.getD 0=if cm N i=true then ((pn N i).length:Int) - (pn N i).countP (λx=>decide (x∈D)) - ex i else 0
 rd:∀i,i<N.length->((i:Int)∈rdy↔lft[i]?.getD 0=0)
def Up(N:NodeL)(D lev:List Int):Prop:=∀i,i<N.length->cm N i=true->∀a∈pn N i,a∈D->lev[a.toNat]?.getD 0+1<=lev[i]?.getD 0
structure KJ(N:NodeL)(D:List Int)(a:Int)(l:List (Int×Int))(j:Nat)(lev lft rdy:List Int):Prop where
 ki:KI N D (λi=>(l.take j).countP (λe=>e.1==(i:Int))) lft rdy
 ll:lev.length=N.length
 up:Up N D lev
 ua:∀e∈l.take j,cm N e.1.toNat=true->lev[a.toNat]?.getD 0+1<=lev[e.1.toNat]?.getD 0
 b0:∀i,i<N.length->0<=lev[i]?.getD 0/\lev[i]?.getD 0<=D.length+1
 ba:lev[a.toNat]?.getD 0<=D.length
 pre:∃t,rdy=D++a::t
structure Edges(N:NodeL)(a:Int)(l:List (Int×Int)):Prop where
 r:∀e∈l,In N.length e.1
 c:∀i,i<N.length->l.countP (λe=>e.1==(i:Int))=(pn N i).count a
def edges{N:NodeL}{a:Nat}:Edges N a (readers a N 0):=by obtain⟨h1,h2⟩:=readers_ok a N 0;exact⟨λe he=>by have:=h1 e he;exact⟨by omega,by omega⟩,λi hi=>by have:=h2 i hi;rwa [AF]at this⟩
def getSet{l:List Int}{i j:Nat}{v:Int}(h:i<l.length):(l.set i v)[j]?.getD 0=if j=i then v else l[j]?.getD 0:=by
 rw[BM];by_cases e:i=j
 ·rw[AC e,AC h,AC e.symm];rfl
 ·rw[AK e,AK (λh=>e h.symm)]
def take_succ'{α:Type}{l:List α}{j:Nat}(h:j<l.length):l.take (j+1)=l.take j++[l[j]]:=(C0 h).symm
def cpLt{l:List (Int×Int)}{j:Nat}(h:j<l.length):(l.take j).countP (λe=>e.1==l[j].1)+1<=l.countP (λe=>e.1==l[j].1):=by
 have h1:l=l.take (j+1)++l.drop (j+1):=(Bq _ _).symm;have h2:l.countP (λe=>e.1==l[j].1)=(l.take (j+1)).countP (λe=>e.1==l[j].1)+(l.drop (j+1)).countP (λe=>e.1==l[j].1):=by rw[<-Cq,<-h1]
 rw[h2,take_succ' h,Cq];simp
def KJ.left{N:NodeL}{D:List Int}{a:Int}{l:List (Int×Int)}{j:Nat}{lev lft rdy:List Int}(h:KJ N D a l j lev lft rdy)(he:Edges N a l)(hj:j<l.length)(hc:cm N l[j].1.toNat=true):1<=lft[l[j].1.toNat]?.getD 0:=by
 obtain⟨r0,r1⟩:=he.r l[j] (A9 hj);have hn:l[j].1.toNat<N.length:=by omega
 have e1:((l[j].1.toNat:Nat):Int)=l[j].1:=Az r0;rw[h.ki.cnt _ hn,AC hc];have h1:=he.c _ hn;obtain⟨t,ht⟩:=h.pre;have hd:a∉D:=by have:=h.ki.rn;rw[ht,List.nodup_append]at this;exact λha=>this.2.2 a ha a (B4 ..) rfl
 have h2:=cp_add hd (pn N l[j].1.toNat);have h3:(pn N l[j].1.toNat).countP (λx=>decide (x∈D++[a]))<=(pn N l[j].1.toNat).length:=List.countP_le_length ..;have h4:=cpLt hj;simp only[e1]at h1⊢;omega
def KJ.low{N:NodeL}{D:List Int}{a:Int}{l:List (Int×Int)}{j:Nat}{lev lft rdy:List Int}(h:KJ N D a l j lev lft rdy){i:Nat}(hi:i<N.length):0<=lft[i]?.getD 0\/cm N i=true:=by
 cases hc:cm N i with
 |true=>exact .inr rfl
 |false=>left;rw[h.ki.cnt i hi,hc];simp
def KJ.high{N:NodeL}{D:List Int}{a:Int}{l:List (Int×Int)}{j:Nat}{lev lft rdy:List Int}(h:KJ N D a l j lev lft rdy){i:Nat}(hi:i<N.length):lft[i]?.getD 0<=(pn N i).length:=by rw[h.ki.cnt i hi];split<;>omega
def KJ.skip{N:NodeL}{D:List Int}{a:Int}{l:List (Int×Int)}{j:Nat}{lev lft rdy:List Int}(h:KJ N D a l j lev lft rdy)(he:Edges N a l)(hj:j<l.length)(hc:cm N l[j].1.toNat=false):KJ N D a l (j+1) lev lft rdy:=by
 obtain⟨r0,r1⟩:=he.r l[j] (A9 hj);refine { h with ki:={ h.ki with cnt:=λi hi=> ?_ },ua:=λe hm hce=> ?_ }
 ·rw[h.ki.cnt i hi];by_cases hci:cm N i=true
  ·rw[AC hci,AC hci,take_succ' hj,Cq];have:([l[j]]:List (Int×Int)).countP (λe=>e.1==(i:Int))=0:=List.countP_eq_zero.2 λe hm=>(by obtain rfl:=Ae.1 hm;intro e2;have e2:l[j].1=(i:Int):=BU.1 e2;rw[e2,AA,hci]at hc;cases hc);rw[this];omega
  ·rw[AK hci,AK hci]
 ·rw[take_succ' hj]at hm;rcases Ak.1 hm with hm|hm
  ·exact h.ua e hm hce
  ·obtain rfl:=Ae.1 hm;rw[hc]at hce;cases hce
def KJ.edge{N:NodeL}{D:List Int}{a:Int}{l:List (Int×Int)}{j:Nat}{lev lft rdy:List Int}(h:KJ N D a l j lev lft rdy)(he:Edges N a l)(hj:j<l.length)(hc:cm N l[j].1.toNat=true)
  {lev' lft' rdy':List Int} (h1:lft'=lft.set l[j].1.toNat (lft[l[j].1.toNat]?.getD 0 - 1))
  (h2:lev'=lev.set l[j].1.toNat (if lev[a.toNat]?.getD 0+1>lev[l[j].1.toNat]?.getD 0 then lev[a.toNat]?.getD 0+1 else lev[l[j].1.toNat]?.getD 0))
  (h3:rdy'=if lft[l[j].1.toNat]?.getD 0 - 1=0 then rdy++[l[j].1] else rdy):KJ N D a l (j+1) lev' lft' rdy':=by
 have hl:=h.left he hj hc;obtain⟨r0,r1⟩:=he.r l[j] (A9 hj);have hn:l[j].1.toNat<N.length:=by omega
 have e1:((l[j].1.toNat:Nat):Int)=l[j].1:=Az r0;have hnot:l[j].1∉rdy:=λhm=>by have:=(h.ki.rd _ hn).1 (by rw[e1];exact hm);omega
 obtain⟨t,ht⟩:=h.pre;have hlf:=h.ki.lf;have hll:=h.ll;have hother:∀x:Int,x∈rdy->0<=x->x.toNat≠l[j].1.toNat:=λx hx h0 e=>hnot (by
  have:x=l[j].1:=(by omega);rw[<-this];exact hx)
 have hD:∀x∈D,x∈rdy/\0<=x:=λx hx=>by have:x∈rdy:=(by rw[ht];exact B0 _ hx);exact⟨this,(h.ki.rr x this).1⟩
 have ha:a∈rdy/\0<=a:=by have:a∈rdy:=(by rw[ht];exact B7 _ (B4 ..));exact⟨this,(h.ki.rr a this).1⟩
 have gl:∀i,lft'[i]?.getD 0=if i=l[j].1.toNat then lft[l[j].1.toNat]?.getD 0 - 1 else lft[i]?.getD 0:=λi=>by rw[h1];exact getSet (by omega)
 have gv:∀i,lev'[i]?.getD 0=if i=l[j].1.toNat then (if lev[a.toNat]?.getD 0+1>lev[l[j].1.toNat]?.getD 0 then lev[a.toNat]?.getD 0+1 else lev[l[j].1.toNat]?.getD 0) else lev[i]?.getD 0:=λi=>by rw[h2];exact getSet (by omega)
 have gD:∀x:Int,x∈rdy->0<=x->lev'[x.toNat]?.getD 0=lev[x.toNat]?.getD 0:=λx hx h0=>by rw[gv,AK (hother x hx h0)]
 have gge:∀i:Nat,lev[i]?.getD 0<=lev'[i]?.getD 0:=λi=>by
  rw[gv];split
  ·rename_i e;subst e;split<;>omega
  ·omega
 refine⟨⟨by rw[h1];simpa using hlf,?_,?_,λi hi=> ?_,λi hi=> ?_⟩,by rw[h2];simpa using hll,λi hi hci x hx hxD=> ?_,λe hm hce=> ?_,λi hi=> ?_,?_,?_⟩
 ·rw[h3];split
  ·rw[List.nodup_append];exact⟨h.ki.rn,by simp,λx hx y hy e=>hnot (by rw[Ae.1 hy]at e;rw[<-e];exact hx)⟩
  ·exact h.ki.rn
 ·rw[h3];split
  ·intro x hx;rcases Ak.1 hx with hx|hx
   ·exact h.ki.rr x hx
   ·rw[Ae.1 hx];exact⟨r0,r1⟩
  ·exact h.ki.rr
 ·rw[gl,take_succ' hj,Cq];by_cases e:i=l[j].1.toNat
  ·subst e;rw[AC rfl,AC hc,h.ki.cnt _ hn,AC hc];have:([l[j]]:List (Int×Int)).countP (λe=>e.1==((l[j].1.toNat:Nat):Int))=1:=(by rw[e1];simp);rw[this];omega
  ·rw[AK e,h.ki.cnt i hi];have:([l[j]]:List (Int×Int)).countP (λe=>e.1==(i:Int))=0:=List.countP_eq_zero.2 λx hm e2=>(by obtain rfl:=Ae.1 hm;exact e (by rw[BU.1 e2];simp));rw[this];split<;>omega
 ·rw[gl,h3];by_cases e:i=l[j].1.toNat
  ·subst e;rw[AC rfl,e1];by_cases e4:lft[l[j].1.toNat]?.getD 0 - 1=0
   ·rw[AC e4];exact⟨λ_=>e4,λ_=>B7 _ (Ae.2 rfl)⟩
   ·rw[AK e4];exact⟨λhm=>absurd hm hnot,λh=>absurd h e4⟩
  ·rw[AK e,<-h.ki.rd i hi];split
   ·refine⟨λhm=> ?_,λhm=>B0 _ hm⟩;rcases Ak.1 hm with hm|hm
    ·exact hm
    ·exact absurd (by rw[<-Ae.1 hm];simp) e
   ·exact Iff.rfl
 ·rw[gD x (hD x hxD).1 (hD x hxD).2];exact Int.le_trans (h.up i hi hci x hx hxD) (gge i)
 ·rw[gD a ha.1 ha.2];rw[take_succ' hj]at hm;rcases Ak.1 hm with hm|hm
  ·exact Int.le_trans (h.ua e hm hce) (gge _)
  ·obtain rfl:=Ae.1 hm;rw[gv,AC rfl];split<;>omega
 ·have:=h.b0 i hi;have h5:=h.ba;have h6:=h.b0 _ hn;rw[gv];split
  ·rename_i e;have h7:=h.b0 a.toNat (by have:=h.ki.rr a ha.1;omega);split
   ·exact⟨by omega,by omega⟩
   ·exact h6
  ·exact this
 ·rw[gD a ha.1 ha.2];exact h.ba
 ·rw[h3];split
  ·exact⟨t++[l[j].1],by rw[ht];simp⟩
  ·exact⟨t,ht⟩
end Co
section
namespace Co
def nums(n:Nat):List Int:=(List.range n).map λi:Nat=>(i:Int)
def nums_mem{n:Nat}{a:Int}:a∈nums n↔In n a:=by unfold nums In;rw[BR];refine⟨λ⟨i,h1,h2⟩=> ?_,λh=>⟨a.toNat,Bg.2 (by omega),by omega⟩⟩;have:=Bg.1 h1;omega
def nums_nodup{n:Nat}:(nums n).Nodup:=List.pairwise_map.2 (List.nodup_range.imp λh e=>h (by omega))
def nums_len{n:Nat}:(nums n).length=n:=by simp[nums]
def nodup_len{l:List Int}{n:Nat}(h:l.Nodup)(hr:∀a∈l,In n a):l.length<=n:=by
 have h1:l.Perm ((nums n).filter λa=>decide (a∈l)):=(List.perm_ext_iff_of_nodup h (List.Pairwise.filter _ nums_nodup)).2 λa=>by rw[CY,nums_mem];exact⟨λha=>⟨hr a ha,by simpa using ha⟩,λha=>by simpa using ha.2⟩
 rw[h1.length_eq];have:=CD (λa=>decide (a∈l)) (nums n);rwa [nums_len]at this
def nodup_full{l:List Int}{n:Nat}(h:l.Nodup)(hr:∀a∈l,In n a)(hf:∀i,i<n->(i:Int)∈l):l.Perm (nums n):=
 (List.perm_ext_iff_of_nodup h nums_nodup).2 λa=>by rw[nums_mem];refine⟨hr a,λha=> ?_⟩;have:=hf a.toNat (by obtain⟨q1,q2⟩:=ha;omega);rwa [Az ha.1]at this
def leB_of{a b:Nat}(h:a<=b):leB a b=true:=AB h
def eqN_of{a b:Nat}(h:a=b):eqN a b=true:=AB h
def room{n b:Nat}(hn:n<=1000000)(hb:b<=1000):J1 n b=true:=by unfold J1;have:n*b<=1000000*1000:=Nat.mul_le_mul hn hb;rw[leB_of (by omega),leB_of (by omega),leB_of (by omega)];rfl
def inR_int{a:Int}{n:Nat}(h:In n a):inR a n=true:=by simp[inR];exact h
def dlt{a b:Nat}(h:a<b):decide (a<b)=true:=AB h
def ilt{a b:Int}(h:a<b):decide (a<b)=true:=AB h
def inlt{a b:Int}(h:¬a<b):decide (a<b)=false:=AM h
section
variable {N:NodeL}{A:List (List UInt8)}{C:List Int}{fan:List (List (Int×Int))}{done:Int}
abbrev S2(N:NodeL)(A:List (List UInt8))(C:List Int)(fan:List (List (Int×Int)))(done a:Int)(l:List (Int×Int))(j:Nat)(lev lft rdy:List Int):M71.p2X:=⟨0,N.length,N.length,0,N.length,N.length,0,rdy.length,fan,done,a,l,(l.length:Int),(j:Int),N,A,[],C,lev,lft,rdy⟩
abbrev Q2(N:NodeL)(A:List (List UInt8))(C:List Int)(fan:List (List (Int×Int)))(done:Int)(lev lft rdy:List Int):M71.q2X:=⟨0,N.length,N.length,0,N.length,N.length,0,rdy.length,fan,done,N,A,[],C,lev,lft,rdy⟩
def m71_2{D:List Int}{a:Int}{l:List (Int×Int)}(he:Edges N a l)(hN:N.length<=20)(few:∀i,(pn N i).length<=1000000)(hl:l.length<=1000000)(hD:D.length<=20)(ha:In N.length a){lev lft rdy:List Int}(h:KJ N D a l 0 lev lft rdy):
  ∃lev' lft' rdy',iter M71.s2 (S2 N A C fan done a l 0 lev lft rdy)=some (Q2 N A C fan done lev' lft' rdy')/\KJ N D a l l.length lev' lft' rdy':=by
 obtain⟨y,h1,lev',lft',rdy',h2,h3⟩:=iter_inv (step:=M71.s2) (λx=>∃j lev lft rdy,x=S2 N A C fan done a l j lev lft rdy/\j<=l.length/\KJ N D a l j lev lft rdy) (λx=>l.length - x.i.toNat)
  (λy=>∃lev lft rdy,y=Q2 N A C fan done lev lft rdy/\KJ N D a l l.length lev lft rdy) (by
   rintro x ⟨j,lev,lft,rdy,rfl,hj,hk⟩;unfold M71.s2;by_cases hlt:j<l.length
   ·have e1:=ilt (a:=(j:Int)) (b:=(l.length:Int)) (by omega);have hr:=he.r l[j] (A9 hlt);have hn:l[j].1.toNat<N.length:=(by obtain⟨q1,q2⟩:=hr;omega);have hat:a.toNat<N.length:=(by obtain⟨q1,q2⟩:=ha;omega);have e2:=inR_int hr;have e3:=inR_nat hlt;simp only[e1,e3,A6,getD_at hlt,e2,m43,bindO];have e4:isC (N[l[j].1.toNat]?.getD (0,[],0,0)).1=cm N l[j].1.toNat:=rfl;simp only[e4]
    cases hc:cm N l[j].1.toNat with
    |false=>simp only[Bc,A6,suc (i:=j) (by omega)];exact⟨_,rfl,⟨j+1,lev,lft,rdy,rfl,hlt,hk.skip he hlt hc⟩,by simp;omega⟩
    |true=>
     have hL:=hk.left he hlt hc;have hH:=hk.high hn;have hF:=few l[j].1.toNat;have hB:=hk.b0 _ hat;have hBa:=hk.ba;have hrl:rdy.length<=N.length:=nodup_len hk.ki.rn hk.ki.rr;have g1:=dlt (a:=l[j].1.toNat) (b:=lev.length) (by have:=hk.ll;omega);have g2:=dlt (a:=a.toNat) (b:=lev.length) (by have:=hk.ll;omega);have g3:=dlt (a:=l[j].1.toNat) (b:=lft.length) (by have:=hk.ki.lf;omega);have g4:=dlt (a:=l[j].1.toNat) (b:=(lft.set l[j].1.toNat (lft[l[j].1.toNat]?.getD 0 - 1)).length) (by have:=hk.ki.lf;simp;omega);have w1:i64.wrap (lft[l[j].1.toNat]?.getD 0 - 1)=lft[l[j].1.toNat]?.getD 0 - 1:=w64 (by omega) (by omega);have w2:i64.wrap (lev[a.toNat]?.getD 0+1)=lev[a.toNat]?.getD 0+1:=w64 (by omega) (by omega);have g5:(lft.set l[j].1.toNat (lft[l[j].1.toNat]?.getD 0 - 1))[l[j].1.toNat]?.getD 0=lft[l[j].1.toNat]?.getD 0 - 1:=(by rw[getSet (by have:=hk.ki.lf;omega),AC rfl]);simp only[Cb,A7,AF,g1,g2,g3,w1,w2,inR_int ha,A6,g4,g5,suc (i:=j) (by omega)];by_cases h0:lft[l[j].1.toNat]?.getD 0 - 1=0
     ·have g6:(lft[l[j].1.toNat]?.getD 0 - 1==0)=true:=BU.2 h0;simp only[g6,A6,eqN_of rfl,room (n:=rdy.length+1) (b:=8) (by omega) (by omega),AH];exact⟨_,rfl,⟨j+1,_,_,rdy++[l[j].1],by simp,hlt,hk.edge he hlt hc rfl rfl (by rw[AC h0])⟩,by simp;omega⟩
     ·have g6:(lft[l[j].1.toNat]?.getD 0 - 1==0)=false:=Ag.2 h0;simp only[g6,A7];exact⟨_,rfl,⟨j+1,_,_,rdy,rfl,hlt,hk.edge he hlt hc rfl rfl (by rw[AK h0])⟩,by simp;omega⟩
   ·have e1:=inlt (a:=(j:Int)) (b:=(l.length:Int)) (by omega);have hj':j=l.length:=(by omega);subst hj';simp only[e1,A7];exact⟨_,rfl,lev,lft,rdy,rfl,hk⟩) (S2 N A C fan done a l 0 lev lft rdy) ⟨0,lev,lft,rdy,rfl,Af _,h⟩
 exact⟨lev',lft',rdy',by rw[h1,h2],h3⟩
structure KO(N:NodeL)(D lev lft rdy:List Int):Prop where
 ki:KI N D (λ_=>0) lft rdy
 ll:lev.length=N.length
 up:Up N D lev
 b0:∀i,i<N.length->0<=lev[i]?.getD 0/\lev[i]?.getD 0<=D.length
 pre:∃t,rdy=D++t
def KO.begin{D:List Int}{a:Int}{t lev lft:List Int}{l:List (Int×Int)}(h:KO N D lev lft (D++a::t)):KJ N D a l 0 lev lft (D++a::t) where
 ki:={ h.ki with cnt:=λi hi=>by rw[h.ki.cnt i hi];simp }
 ll:=h.ll
 up:=h.up
 ua:=λe he=>by simp at he
 b0:=λi hi=>by have:=h.b0 i hi;exact⟨this.1,by omega⟩
 ba:=by have:=h.ki.rr a (B7 _ (B4 ..));exact(h.b0 a.toNat (by obtain⟨q1,q2⟩:=this;omega)).2
 pre:=⟨t,rfl⟩
def KJ.fin{D:List Int}{a:Int}{lev lft rdy:List Int}{l:List (Int×Int)}(he:Edges N a l)(h:KJ N D a l l.length lev lft rdy):KO N (D++[a]) lev lft rdy:=by
 obtain⟨t,ht⟩:=h.pre;have hd:a∉D:=by have:=h.ki.rn;rw[ht,List.nodup_append]at this;exact λha=>this.2.2 a ha a (B4 ..) rfl
 refine⟨{ h.ki with cnt:=λi hi=> ?_ },h.ll,λi hi hc x hx hxD=> ?_,λi hi=> ?_,⟨t,by rw[ht];simp⟩⟩
 ·rw[h.ki.cnt i hi,cp_add hd,Aa,he.c i hi];split<;>omega
 ·rcases Ak.1 hxD with hxD|hxD
  ·exact h.up i hi hc x hx hxD
  ·obtain rfl:=Ae.1 hxD;have h1:0<l.countP (λe=>e.1==(i:Int)):=(by rw[he.c i hi];exact List.count_pos_iff.2 hx);obtain⟨e,h2,h3⟩:=List.countP_pos_iff.1 h1;have h3:e.1=(i:Int):=BU.1 h3;have h4:=h.ua e (by rw[Aa];exact h2) (by rw[h3,AA];exact hc);rwa [h3,AA]at h4
 ·have:=h.b0 i hi;rw[AG,Bj];exact⟨this.1,by omega⟩
abbrev S1(N:NodeL)(A:List (List UInt8))(C:List Int)(fan:List (List (Int×Int)))(d:Nat)(lev lft rdy:List Int):M71.p1X:=⟨0,N.length,N.length,0,N.length,N.length,0,rdy.length,fan,(d:Int),N,A,[],C,lev,lft,rdy⟩
def m71_1(hN:N.length<=20)(few:∀i,(pn N i).length<=1000000)(hf:fan.length=N.length)(hfe:∀a,a<N.length->Edges N (a:Int) (fan[a]?.getD []))(hfl:∀a,a<N.length->(fan[a]?.getD []).length<=1000000){lev lft rdy:List Int}(h:KO N [] lev lft rdy):
  ∃lev' lft' rdy':List Int,iter M71.s1 (S1 N A C fan 0 lev lft rdy)=some ⟨lev',(rdy'.length:Int),N,A,[],C⟩/\KO N rdy' lev' lft' rdy':=by
 obtain⟨y,h1,lev',lft',rdy',h2,h3⟩:=iter_inv (step:=M71.s1) (λx=>∃d lev lft rdy,x=S1 N A C fan d lev lft rdy/\d<=rdy.length/\KO N (rdy.take d) lev lft rdy) (λx=>N.length - x.done.toNat)
  (λy=>∃lev lft rdy:List Int,y=(⟨lev,(rdy.length:Int),N,A,[],C⟩:M71.q1X)/\KO N rdy lev lft rdy) (by
   rintro x ⟨d,lev,lft,rdy,rfl,hd,hk⟩;have hrl:rdy.length<=N.length:=nodup_len hk.ki.rn hk.ki.rr;unfold M71.s1;by_cases hlt:d<rdy.length
   ·have e1:=ilt (a:=(d:Int)) (b:=(rdy.length:Int)) (by omega);have hr:=hk.ki.rr rdy[d] (A9 hlt);have hn:rdy[d].toNat<N.length:=(by obtain⟨q1,q2⟩:=hr;omega);have hrf:In fan.length rdy[d]:=(by rw[hf];exact hr);have hsplit:rdy=rdy.take d++rdy[d]::rdy.drop (d+1):=(by rw[List.getElem_cons_drop,Bq]);have hE:Edges N rdy[d] (fan[rdy[d].toNat]?.getD []):=(by have:=hfe _ hn;rwa [Az hr.1]at this);have hk':KO N (rdy.take d) lev lft (rdy.take d++rdy[d]::rdy.drop (d+1)):=(by rw[<-hsplit];exact hk);have hj:=hk'.begin (l:=fan[rdy[d].toNat]?.getD []);rw[<-hsplit]at hj;simp only[e1,inR_nat hlt,A6,AF,AA,dlt hlt,hlt,A4,Aj,inR_int hrf,suc (i:=d) (by omega)];have htl:(rdy.take d).length<=20:=(by rw[B6];omega);by_cases h0:(fan[rdy[d].toNat]?.getD []).length=0
    ·have g:(((fan[rdy[d].toNat]?.getD []).length:Int)==0)=true:=BU.2 (by omega);simp only[g,A6];have h5:KJ N (rdy.take d) rdy[d] (fan[rdy[d].toNat]?.getD []) (fan[rdy[d].toNat]?.getD []).length lev lft rdy:=(by rw[h0];exact hj);have h6:=h5.fin hE;rw[<-take_succ' hlt]at h6;exact⟨_,rfl,⟨d+1,lev,lft,rdy,rfl,hlt,h6⟩,by simp;omega⟩
    ·have g:(((fan[rdy[d].toNat]?.getD []).length:Int)==0)=false:=Ag.2 (by omega);obtain⟨lev',lft',rdy',h5,h6⟩:=m71_2 (N:=N) (A:=A) (C:=C) (fan:=fan) (done:=((d+1:Nat):Int)) hE hN few (hfl _ hn) htl hr hj;have h7:=h6.fin hE;rw[<-take_succ' hlt]at h7;obtain⟨t,ht⟩:=h7.pre;have h8:rdy.take (d+1)=rdy'.take (d+1):=(by rw[ht,CU (by rw[B6];omega),List.take_take,Nat.min_self]);have h9:d+1<=rdy'.length:=(by rw[ht,AG,B6];omega);rw[h8]at h7;have h5':iter M71.s2 { QC:=0,Q8:=N.length,Qj:=N.length,Qh:=0,Qq:=N.length,J3:=N.length,Qp:=0,Qg:=rdy.length,fan:=fan,done:=((d+1:Nat):Int),k:=rdy[d],l:=fan[rdy[d].toNat]?.getD [],n:=((fan[rdy[d].toNat]?.getD []).length:Int),i:=0,Q0:=N,Q1:=A,Q4:=[],Q3:=C,lev:=lev,lft:=lft,rdy:=rdy }=some (Q2 N A C fan ((d+1:Nat):Int) lev' lft' rdy'):=h5;simp only[g,A7,h5',bindO];exact⟨_,rfl,⟨d+1,lev',lft',rdy',rfl,h9,h7⟩,by simp;omega⟩
   ·have e1:=inlt (a:=(d:Int)) (b:=(rdy.length:Int)) (by omega);have hd':d=rdy.length:=(by omega);subst hd';rw[Aa]at hk;simp only[e1,A7,AF,leB_of (Nat.le_of_eq hk.ll.symm),AH,A6];exact⟨_,rfl,lev,lft,rdy,by simp[<-hk.ll],hk⟩) (S1 N A C fan 0 lev lft rdy) ⟨0,lev,lft,rdy,rfl,Af _,by rw[CN];exact h⟩
 exact⟨lev',lft',rdy',by rw[h1,h2],h3⟩
end
end Co
end
namespace M115
structure gX where(x:Int)
def g:Sg gX:=⟨[cI],[],λa b=>⟨a.1⟩,λx=>(x.x,()),λx=>()⟩
abbrev fY:=Bool
def f:Ft fY:=⟨none,.c (.bo),[],λa b=>(a),λy=>y,λy=>()⟩
def m(x:gX):Option fY:=some (x.x !=x.x)
def known:QQ prog 115 g f m:=
 kc0 [] s115
end M115
namespace M74
structure gX where(x y:Int)
def g:Sg gX:=⟨[cI,cI],[],λa b=>⟨a.1,a.2.1⟩,λx=>(x.x,(x.y,())),λx=>()⟩
abbrev fY:=Int
def f:Ft fY:=⟨none,cI,[],λa b=>(a),λy=>y,λy=>()⟩
def m(x:gX):Option fY:=bindO (M115.m ⟨x.x⟩) λy=>bindO (M115.m ⟨x.y⟩) λy_1=>bif y then bif y_1 then some 0 else some (-1) else bif y_1 then some 1 else bif decide (x.x<x.y) then some (-1) else bif decide (x.x>x.y) then some 1 else some 0
def known:QQ prog 74 g f m:=
 kc0 [ck M115.known] s74
end M74
namespace M73
structure gX where(a b:Int)(lv:TI)
def g:Sg gX:=⟨[cI,cI,cP],[.st [aI] 1 0],λa b=>⟨a.1,a.2.1,b.1.1⟩,λx=>(x.a,(x.b,((),()))),λx=>((x.lv,()),())⟩
abbrev fY:=Int×TI
def f:Ft fY:=⟨none,cI,[.st [aI] 1 0],λa b=>(a,b.1.1),λy=>y.1,λy=>((y.2,()),())⟩
def m(x:gX):Option fY:=bif inR x.a x.lv.length then bif inR x.b x.lv.length then bindO (M74.m ⟨x.lv[x.a.toNat]?.getD 0,x.lv[x.b.toNat]?.getD 0⟩) λy=>some (y,x.lv) else none else none
def known:QQ prog 73 g f m:=
 kc0 [ck M74.known] s73
def hh{x:gX}{y:fY}(h:m x=some y):f.H y=g.H x:=by
 unfold m at h;rcases cond_some h with ⟨_,h⟩|⟨_,h⟩
 ·rcases cond_some h with ⟨_,h⟩|⟨_,h⟩
  ·obtain⟨_,_,h⟩:=Qf h;cases h;rfl
  ·cases h
 ·cases h
def con:Con:=YZ g [.arg 2 0] f m default
def con_ok:J4 prog 73 con:=Jh known (λ_=>rfl) (λ_ _ h=>by exact hh h)
end M73
namespace M146
structure gX where(QZ QY Qb:Nat)(a b:Int)(xs lv:TI)
def g:Sg gX:=⟨[.c (.slc 0 0 1),cI,cI,.c (.clo 73 [⟨1,0,0⟩])],[oI,.st [aI] 1 0],λa b=>⟨a.1.1,a.1.2.1,a.1.2.2,a.2.1,a.2.2.1,b.1,b.2.1.1⟩,λx=>((x.QZ,x.QY,x.Qb),(x.a,(x.b,((),())))),λx=>(x.xs,((x.lv,()),()))⟩
abbrev fY:=TI×TI
def f:Ft fY:=⟨none,.tup [],[oI,.st [aI] 1 0],λa b=>(b.1,b.2.1.1),λy=>(),λy=>(y.1,((y.2,()),()))⟩
def cl:List CK:=[⟨73,M73.con,M73.con_ok⟩]
structure p1X where(QZ QY Qb:Nat)(a b i j:Int)(xs lv:TI)
def p1:Pt p1X:=⟨[],⟨[(0,.c (.slc 0 0 1)),(1,cI),(2,cI),(3,.c (.clo 73 [⟨1,0,0⟩])),(8,cI),(9,cI)],[oI,.st [aI] 1 0]⟩,λ(((a,b,c),d,e,_,f,g,_),h,(i,_),_)=>⟨a,b,c,d,e,f,g,h,i⟩,λx=>(((x.QZ,x.QY,x.Qb),(x.a,(x.b,((),(x.i,(x.j,())))))),(x.xs,((x.lv,()),())))⟩
structure q1X where(QZ QY Qb:Nat)(a b i:Int)(xs lv:TI)
def q1:Pt q1X:=⟨[],⟨[(0,.c (.slc 0 0 1)),(1,cI),(2,cI),(3,.c (.clo 73 [⟨1,0,0⟩])),(8,cI)],[oI,.st [aI] 1 0]⟩,λ(((a,b,c),d,e,_,f,_),g,(h,_),_)=>⟨a,b,c,d,e,f,g,h⟩,λx=>(((x.QZ,x.QY,x.Qb),(x.a,(x.b,((),(x.i,()))))),(x.xs,((x.lv,()),())))⟩
def s1(x:p1X):Option (p1X⊕q1X):=bif inR x.j x.QY||!decide (x.j>x.a) then bif decide (x.QZ+x.j.toNat<x.xs.length)||!decide (x.j>x.a) then bif inR (i64.wrap (x.j - 1)) x.QY||!decide (x.j>x.a) then bif decide (x.QZ+(i64.wrap (x.j - 1)).toNat<x.xs.length)||!decide (x.j>x.a) then bindO (bif decide (x.j>x.a) then M73.m ⟨x.xs[x.QZ+x.j.toNat]?.getD 0,x.xs[x.QZ+(i64.wrap (x.j - 1)).toNat]?.getD 0,x.lv⟩ else some (Int.ofNat 0,[])) λy=>bif bif decide (x.j>x.a) then decide (y.1<0) else false then bif inR (i64.wrap (x.j - 1)) x.QY then bif decide (x.QZ+(i64.wrap (x.j - 1)).toNat<x.xs.length) then bif inR x.j x.QY then bif decide (x.QZ+x.j.toNat<x.xs.length) then bif inR x.j x.QY then bif decide (x.QZ+x.j.toNat<x.xs.length) then bif inR (i64.wrap (x.j - 1)) x.QY then bif decide (x.QZ+(i64.wrap (x.j - 1)).toNat<(x.xs.set (x.QZ+x.j.toNat) (x.xs[x.QZ+(i64.wrap (x.j - 1)).toNat]?.getD 0)).length) then some (inl ⟨x.QZ,x.QY,x.Qb,x.a,x.b,x.i,i64.wrap (x.j - 1),(x.xs.set (x.QZ+x.j.toNat) (x.xs[x.QZ+(i64.wrap (x.j - 1)).toNat]?.getD 0)).set (x.QZ+(i64.wrap (x.j - 1)).toNat) (x.xs[x.QZ+x.j.toNat]?.getD 0),x.lv⟩) else none else none else none else none else none else none else none else none else some (inr ⟨x.QZ,x.QY,x.Qb,x.a,x.b,x.i,x.xs,x.lv⟩) else none else none else none else none
def l1:QT:=Qa 2 p1 (.exit 2) q1 s1
def l1_ok  :QO prog 53 none 2 (C146.QR 1) l1:=lc cl 2 (λ_=>none) QX.nil
structure p0X where(QZ QY Qb:Nat)(a b i:Int)(xs lv:TI)
def p0:Pt p0X:=⟨[],⟨[(0,.c (.slc 0 0 1)),(1,cI),(2,cI),(3,.c (.clo 73 [⟨1,0,0⟩])),(8,cI)],[oI,.st [aI] 1 0]⟩,λ(((a,b,c),d,e,_,f,_),g,(h,_),_)=>⟨a,b,c,d,e,f,g,h⟩,λx=>(((x.QZ,x.QY,x.Qb),(x.a,(x.b,((),(x.i,()))))),(x.xs,((x.lv,()),())))⟩
structure q0X where(xs lv:TI)
def q0:Pt q0X:=⟨[],⟨[],[oI,.st [aI] 1 0]⟩,λ(_,a,(b,_),_)=>⟨a,b⟩,λx=>((),(x.xs,((x.lv,()),())))⟩
def s0(x:p0X):Option (p0X⊕q0X):=bif decide (x.i<x.b) then bindO (iter s1 ⟨x.QZ,x.QY,x.Qb,x.a,x.b,x.i,x.i,x.xs,x.lv⟩) λy=>some (inl ⟨y.QZ,y.QY,y.Qb,y.a,y.b,i64.wrap (y.i+1),y.xs,y.lv⟩) else some (inr ⟨x.xs,x.lv⟩)
def l0:QT:=Qa 2 p0 (.exit 0) q0 s0
def l0_ok  :QO prog 53 none 2 (C146.QR 0) l0:=lc cl 1 (J2 [(1,l1)]) (ac 1 l1_ok QX.nil)
def m(x:gX):Option fY:=bindO (iter s0 ⟨x.QZ,x.QY,x.Qb,x.a,x.b,i64.wrap (x.a+1),x.xs,x.lv⟩) λy=>some (y.xs,y.lv)
def known:QQ prog 146 g f m:=
 kc cl s146 (J2 [(0,l0),(1,l1)]) (ac 0 l0_ok QX.nil)
def con:Con:=Y2 g [.arg 0 0,.arg 3 0] f m default
def con_ok:J4 prog 146 con:=JY known
end M146
namespace M114
structure gX where(QZ QY Qb:Nat)(n:Int)(xs lv:TI)
def g:Sg gX:=⟨[.c (.slc 0 0 1),cI,.c (.clo 73 [⟨1,0,0⟩])],[oI,.st [aI] 1 0],λa b=>⟨a.1.1,a.1.2.1,a.1.2.2,a.2.1,b.1,b.2.1.1⟩,λx=>((x.QZ,x.QY,x.Qb),(x.n,((),()))),λx=>(x.xs,((x.lv,()),()))⟩
abbrev fY:=TI×TI
def f:Ft fY:=⟨none,.tup [],[oI,.st [aI] 1 0],λa b=>(b.1,b.2.1.1),λy=>(),λy=>(y.1,((y.2,()),()))⟩
def cl:List CK:=[⟨146,M146.con,M146.con_ok⟩]
structure p2X where(QZ QY Qb:Nat)(n bs a b:Int)(xs lv:TI)
def p2:Pt p2X:=⟨[],⟨[(0,.c (.slc 0 0 1)),(1,cI),(2,.c (.clo 73 [⟨1,0,0⟩])),(6,cI),(7,cI),(8,cI)],[oI,.st [aI] 1 0]⟩,λ(((a,b,c),d,_,e,f,g,_),h,(i,_),_)=>⟨a,b,c,d,e,f,g,h,i⟩,λx=>(((x.QZ,x.QY,x.Qb),(x.n,((),(x.bs,(x.a,(x.b,())))))),(x.xs,((x.lv,()),())))⟩
structure q2X where(QZ QY Qb:Nat)(n bs a:Int)(xs lv:TI)
def q2:Pt q2X:=⟨[],⟨[(0,.c (.slc 0 0 1)),(1,cI),(2,.c (.clo 73 [⟨1,0,0⟩])),(6,cI),(7,cI)],[oI,.st [aI] 1 0]⟩,λ(((a,b,c),d,_,e,f,_),g,(h,_),_)=>⟨a,b,c,d,e,f,g,h⟩,λx=>(((x.QZ,x.QY,x.Qb),(x.n,((),(x.bs,(x.a,()))))),(x.xs,((x.lv,()),())))⟩
def s2(x:p2X):Option (p2X⊕q2X):=bif decide (x.b<=x.n) then none else some (inr ⟨x.QZ,x.QY,x.Qb,x.n,x.bs,x.a,x.xs,x.lv⟩)
def l2:QT:=Qa 2 p2 (.exit 4) q2 s2
def l2_ok  :QO prog 63 none 2 (C114.QR 2) l2:=lc cl 3 (λ_=>none) QX.nil
structure p1X where(QZ QY Qb:Nat)(n bs:Int)(xs lv:TI)
def p1:Pt p1X:=⟨[],⟨[(0,.c (.slc 0 0 1)),(1,cI),(2,.c (.clo 73 [⟨1,0,0⟩])),(6,cI)],[oI,.st [aI] 1 0]⟩,λ(((a,b,c),d,_,e,_),f,(g,_),_)=>⟨a,b,c,d,e,f,g⟩,λx=>(((x.QZ,x.QY,x.Qb),(x.n,((),(x.bs,())))),(x.xs,((x.lv,()),())))⟩
structure q1X where(xs lv:TI)
def q1:Pt q1X:=⟨[],⟨[],[oI,.st [aI] 1 0]⟩,λ(_,a,(b,_),_)=>⟨a,b⟩,λx=>((),(x.xs,((x.lv,()),())))⟩
def s1(x:p1X):Option (p1X⊕q1X):=bif decide (x.bs<x.n) then bindO (iter s2 ⟨x.QZ,x.QY,x.Qb,x.n,x.bs,0,i64.wrap (2*x.bs),x.xs,x.lv⟩) λy=>bif decide (i64.wrap (y.a+y.bs)<y.n) then none else some (inl ⟨y.QZ,y.QY,y.Qb,y.n,i64.wrap (y.bs*2),y.xs,y.lv⟩) else some (inr ⟨x.xs,x.lv⟩)
def l1:QT:=Qa 2 p1 (.exit 2) q1 s1
def l1_ok  :QO prog 63 none 2 (C114.QR 1) l1:=lc cl 2 (J2 [(2,l2)]) (ac 2 l2_ok QX.nil)
structure p0X where(QZ QY Qb:Nat)(n bs a b:Int)(xs lv:TI)
def p0:Pt p0X:=⟨[],⟨[(0,.c (.slc 0 0 1)),(1,cI),(2,.c (.clo 73 [⟨1,0,0⟩])),(6,cI),(7,cI),(8,cI)],[oI,.st [aI] 1 0]⟩,λ(((a,b,c),d,_,e,f,g,_),h,(i,_),_)=>⟨a,b,c,d,e,f,g,h,i⟩,λx=>(((x.QZ,x.QY,x.Qb),(x.n,((),(x.bs,(x.a,(x.b,())))))),(x.xs,((x.lv,()),())))⟩
structure q0X where(QZ QY Qb:Nat)(n bs a:Int)(xs lv:TI)
def q0:Pt q0X:=⟨[],⟨[(0,.c (.slc 0 0 1)),(1,cI),(2,.c (.clo 73 [⟨1,0,0⟩])),(6,cI),(7,cI)],[oI,.st [aI] 1 0]⟩,λ(((a,b,c),d,_,e,f,_),g,(h,_),_)=>⟨a,b,c,d,e,f,g,h⟩,λx=>(((x.QZ,x.QY,x.Qb),(x.n,((),(x.bs,(x.a,()))))),(x.xs,((x.lv,()),())))⟩
def s0(x:p0X):Option (p0X⊕q0X):=bif decide (x.b<=x.n) then bindO (M146.m ⟨x.QZ,x.QY,x.Qb,x.a,x.b,x.xs,x.lv⟩) λy=>some (inl ⟨x.QZ,x.QY,x.Qb,x.n,x.bs,x.b,i64.wrap (x.b+x.bs),y.1,y.2⟩) else some (inr ⟨x.QZ,x.QY,x.Qb,x.n,x.bs,x.a,x.xs,x.lv⟩)
def l0:QT:=Qa 2 p0 (.exit 0) q0 s0
def l0_ok  :QO prog 63 none 2 (C114.QR 0) l0:=lc cl 1 (J2 [(1,l1),(2,l2)]) QX.nil
def m(x:gX):Option fY:=bindO (iter s0 ⟨x.QZ,x.QY,x.Qb,x.n,20,0,20,x.xs,x.lv⟩) λy=>bindO (M146.m ⟨y.QZ,y.QY,y.Qb,y.a,y.n,y.xs,y.lv⟩) λy_1=>bindO (iter s1 ⟨y.QZ,y.QY,y.Qb,y.n,y.bs,y_1.1,y_1.2⟩) λy=>some (y.xs,y.lv)
def known:QQ prog 114 g f m:=
 kc cl s114 (J2 [(0,l0),(1,l1),(2,l2)]) (ac 0 l0_ok (ac 1 l1_ok QX.nil))
def con:Con:=Y2 g [.arg 0 0,.arg 2 0] f m default
def con_ok:J4 prog 114 con:=JY known
end M114
namespace M72
structure gX where(QZ QY Qb:Nat)(xs lv:TI)
def g:Sg gX:=⟨[.c (.slc 0 0 1),.c (.clo 73 [⟨1,0,0⟩])],[oI,.st [aI] 1 0],λa b=>⟨a.1.1,a.1.2.1,a.1.2.2,b.1,b.2.1.1⟩,λx=>((x.QZ,x.QY,x.Qb),((),())),λx=>(x.xs,((x.lv,()),()))⟩
abbrev fY:=TI×TI
def f:Ft fY:=⟨none,.tup [],[oI,.st [aI] 1 0],λa b=>(b.1,b.2.1.1),λy=>(),λy=>(y.1,((y.2,()),()))⟩
def m(x:gX):Option fY:=bindO (M114.m ⟨x.QZ,x.QY,x.Qb,(x.QY:Int),x.xs,x.lv⟩) λy=>some (y.1,y.2)
def known:QQ prog 72 g f m:=
 kc0 [⟨114,M114.con,M114.con_ok⟩] s72
def con:Con:=Y2 g [.arg 0 0,.arg 1 0] f m default
def con_ok:J4 prog 72 con:=JY known
end M72
namespace M40
structure gX where(Q0:TN)(Q1:TS)(Q4:TM)(Q3:TI)
def g:Sg gX:=⟨[.agg cir4],[],λa b=>⟨a.1.1,a.1.2.1,a.1.2.2.1,a.1.2.2.2.1⟩,λx=>((x.Q0,(x.Q1,(x.Q4,(x.Q3,())))),()),λx=>()⟩
abbrev fY:=TI×Int
def f:Ft fY:=⟨none,.tup [.inl (aI),.inl (iI)],[],λa b=>(a.1,a.2.1),λy=>(y.1,(y.2,())),λy=>()⟩
def cl:List CK:=[ck M71.known,⟨72,M72.con,M72.con_ok⟩]
structure p0X where(QC Q8 Qj:Nat)(n i:Int)(Q0:TN)(Q1:TS)(Q4:TM)(Q3 lv xs:TI)
def p0:Pt p0X:=⟨[],⟨[(4,.c (.ptr 1 0)),(6,.c (.slc 2 0 1)),(21,cI),(22,cI)],[oC,.st [aI] 1 0,oI]⟩,λ((_,(a,b,c),d,e,_),(f,g,h,i,_),(j,_),k,_)=>⟨a,b,c,d,e,f,g,h,i,j,k⟩,λx=>(((),((x.QC,x.Q8,x.Qj),(x.n,(x.i,())))),((x.Q0,(x.Q1,(x.Q4,(x.Q3,())))),((x.lv,()),(x.xs,()))))⟩
structure q0X where(QC Q8 Qj:Nat)(Q0:TN)(Q1:TS)(Q4:TM)(Q3 lv xs:TI)
def q0:Pt q0X:=⟨[],⟨[(4,.c (.ptr 1 0)),(6,.c (.slc 2 0 1))],[oC,.st [aI] 1 0,oI]⟩,λ((_,(a,b,c),_),(d,e,f,g,_),(h,_),i,_)=>⟨a,b,c,d,e,f,g,h,i⟩,λx=>(((),((x.QC,x.Q8,x.Qj),())),((x.Q0,(x.Q1,(x.Q4,(x.Q3,())))),((x.lv,()),(x.xs,()))))⟩
def s0(x:p0X):Option (p0X⊕q0X):=bif decide (x.i<x.n) then bif inR x.i x.Q8 then bif decide (x.QC+x.i.toNat<x.xs.length) then some (inl ⟨x.QC,x.Q8,x.Qj,x.n,i64.wrap (x.i+1),x.Q0,x.Q1,x.Q4,x.Q3,x.lv,x.xs.set (x.QC+x.i.toNat) x.i⟩) else none else none else some (inr ⟨x.QC,x.Q8,x.Qj,x.Q0,x.Q1,x.Q4,x.Q3,x.lv,x.xs⟩)
def l0:QT:=Qa 0 p0 (.exit 0) q0 s0
def l0_ok  :QO prog 34 none 0 (C40.QR 0) l0:=lc cl 1 (λ_=>none) QX.nil
def m(x:gX):Option fY:=bindO (M71.m ⟨x.Q0,x.Q1,x.Q4,x.Q3⟩) λy=>bif y.2 !=0 then some ([],y.2) else bif decide (0<=(x.Q0.length:Int))&&decide ((x.Q0.length:Int)<=(x.Q0.length:Int))&&decide ((x.Q0.length:Int)*(↑8:Int)<=281474976710656)&&decide ((x.Q0.length:Int)<=9223372036854775807) then bindO (iter s0 ⟨0,(x.Q0.length:Int).toNat,(x.Q0.length:Int).toNat,(↑(x.Q0.length:Int).toNat:Int),0,x.Q0,x.Q1,x.Q4,x.Q3,y.1,List.replicate (x.Q0.length:Int).toNat (0:Int)⟩) λy=>bindO (M72.m ⟨y.QC,y.Q8,y.Qj,y.xs,y.lv⟩) λy_1=>bif leB (y.QC+y.Q8) y_1.1.length&&true&&true&&true then some (List.take y.Q8 (List.drop y.QC y_1.1),0) else none else none
def known:QQ prog 40 g f m:=
 kc cl s40 (J2 [(0,l0)]) (ac 0 l0_ok QX.nil)
end M40
section
namespace Co
def Topo(N:NodeL):Prop:=∀i,i<N.length->cm N i=true->∀a∈pn N i,0<=a/\a<i
def lf0(N:NodeL)(i:Nat):Int:=if cm N i=true then ((pn N i).length:Int) else 0
def lfn(N:NodeL)(i:Nat):List Int:=(List.range N.length).map λk=>if k<i then lf0 N k else 0
def rdn(N:NodeL)(i:Nat):List Int:=(nums i).filter λa=>lf0 N a.toNat==0
def nums_succ(i:Nat):nums (i+1)=nums i++[(i:Int)]:=by simp[nums,Br]
def lfn_at{N:NodeL}{i k:Nat}(hk:k<N.length):(lfn N i)[k]?.getD 0=if k<i then lf0 N k else 0:=by simp[lfn,hk]
def lfn_len{N:NodeL}{i:Nat}:(lfn N i).length=N.length:=by simp[lfn]
def lfn_set{N:NodeL}{i:Nat}{v:Int}(h:i<N.length)(hv:v=lf0 N i):(lfn N i).set i v=lfn N (i+1):=by
 refine BW (by simp[lfn]) λk h1 h2=> ?_;have hk:k<N.length:=by simpa [lfn] using h2
 rw[BV];simp only[lfn,AP,C4];by_cases e:i=k
 ·subst e;rw[AC rfl,AC (by omega),hv]
 ·rw[AK e];by_cases e2:k<i
  ·rw[AC e2,AC (by omega)]
  ·rw[AK e2,AK (by omega)]
def lfn_keep{N:NodeL}{i:Nat}(h:i<N.length)(hv:lf0 N i=0):lfn N (i+1)=lfn N i:=by
 rw[<-lfn_set h rfl,hv];refine BW (by simp) λk h1 h2=> ?_;rw[BV];by_cases e:i=k
 ·subst e;rw[AC rfl];simp[lfn]
 ·rw[AK e]
def rdn_yes{N:NodeL}{i:Nat}(h:lf0 N i=0):rdn N (i+1)=rdn N i++[(i:Int)]:=by simp[rdn,nums_succ,C8,h]
def rdn_no{N:NodeL}{i:Nat}(h:lf0 N i≠0):rdn N (i+1)=rdn N i:=by simp[rdn,nums_succ,C8,h]
def rdn_len{N:NodeL}{i:Nat}:(rdn N i).length<=i:=by have:=CD (λa=>lf0 N a.toNat==0) (nums i);rwa [nums_len]at this
section
variable {N:NodeL}{A:List (List UInt8)}{C:List Int}
def m71_0{lev:List Int}(hN:N.length<=19):iter M71.s0 ⟨0,N.length,N.length,0,N.length,N.length,0,0,N,(N.length:Int),0,N,A,[],C,lev,List.replicate N.length 0,[]⟩=some ⟨0,N.length,N.length,0,N.length,N.length,0,(rdn N N.length).length,N,A,[],C,lev,lfn N N.length,rdn N N.length⟩:=by
 have key:=iter_count (step:=M71.s0) (λi=>⟨0,N.length,N.length,0,N.length,N.length,0,(rdn N i).length,N,(N.length:Int),(i:Int),N,A,[],C,lev,lfn N i,rdn N i⟩) (y:=⟨0,N.length,N.length,0,N.length,N.length,0,(rdn N N.length).length,N,A,[],C,lev,lfn N N.length,rdn N N.length⟩) N.length (λi hi=>by
  have e1:=ilt (a:=(i:Int)) (b:=(N.length:Int)) (by omega);have e4:isC (N[i]?.getD (0,[],0,0)).1=cm N i:=rfl;have e5:(N[i]?.getD (0,[],0,0)).2.1=pn N i:=rfl;have hl:i<(lfn N i).length:=(by rw[lfn_len];exact hi);unfold M71.s0;simp only[e1,inR_nat hi,A6,AA,m43,bindO,e4,AF,e5,dlt hl,suc (i:=i) (by omega)];have hrl:=rdn_len (N:=N) (i:=i);have hroom:=room (n:=(rdn N i).length+1) (b:=8) (by omega) (by omega)
  cases hc:cm N i with
  |true=>
   have e6:lf0 N i=((pn N i).length:Int):=(by unfold lf0;rw[AC hc]);have hl2:i<(lfn N (i+1)).length:=(by rw[lfn_len];exact hi);have e7:(lfn N (i+1))[i]?.getD 0=((pn N i).length:Int):=(by rw[lfn_at hi,AC (by omega),e6]);simp only[A6,lfn_set hi e6.symm,dlt hl2,e7];by_cases h0:(pn N i).length=0
   ·have g:(((pn N i).length:Int)==0)=true:=BU.2 (by omega);simp only[g,A6,eqN_of rfl,hroom,AH,rdn_yes (show lf0 N i=0 by omega),AG,Bj]
   ·have g:(((pn N i).length:Int)==0)=false:=Ag.2 (by omega);simp only[g,A7,rdn_no (show lf0 N i≠0 by omega)]
  |false=>
   have e6:lf0 N i=0:=(by unfold lf0;rw[hc];rfl);have e7:(lfn N i)[i]?.getD 0=0:=(by rw[lfn_at hi,AK (by omega)]);simp only[A7,e7,beq_self_eq_true,A6,eqN_of rfl,hroom,AH,rdn_yes e6,lfn_keep hi e6,AG,Bj]) (by
  have e1:=inlt (a:=(N.length:Int)) (b:=(N.length:Int)) (by omega);unfold M71.s0;simp only[e1,A7])
 have e0:lfn N 0=List.replicate N.length 0:=BW (by simp[lfn]) λk h1 h2=>by simp[lfn]
 rw[e0]at key;exact key
def ko0:KO N [] (List.replicate N.length 0) (lfn N N.length) (rdn N N.length) where
 ki:={
   lf:=lfn_len
   rn:=List.Pairwise.filter _ nums_nodup
   rr:=λa ha=>nums_mem.1 (CY.1 ha).1
   cnt:=λi hi=>by
     rw[lfn_at hi,AC hi];unfold lf0;split
     · simp
     · rfl
   rd:=λi hi=>by
     rw[lfn_at hi,AC hi];unfold rdn;rw[CY,nums_mem,AA,BU];exact⟨λh=>h.2,λh=>⟨⟨by omega,by omega⟩,h⟩⟩ }
 ll:=by simp
 up:=λi hi hc a ha h=>by cases h
 b0:=λi hi=>by simp[hi]
 pre:=⟨_,rfl⟩
def KO.all{lev lft rdy:List Int}(h:KO N rdy lev lft rdy)(ht:Topo N):∀i,i<N.length->(i:Int)∈rdy:=by
 intro i
 induction i using Nat.strongRecOn with
 |_ i ih=>
  intro hi;rw[h.ki.rd i hi,h.ki.cnt i hi];by_cases hc:cm N i=true
  ·rw[AC hc];have:(pn N i).countP (λx=>decide (x∈rdy))=(pn N i).length:=List.countP_eq_length.2 λa ha=>(by obtain⟨h1,h2⟩:=ht i hi hc a ha;have:=ih a.toNat (by omega) (by omega);rw[Az h1]at this;simpa using this);rw[this];simp
  ·rw[AK hc]
structure Lv(N:NodeL)(lev:List Int):Prop where
 ll:lev.length=N.length
 up:∀i,i<N.length->cm N i=true->∀a∈pn N i,lev[a.toNat]?.getD 0+1<=lev[i]?.getD 0
def m71(h:Ck N A C)(ht:Topo N):∃lev,M71.m ⟨N,A,[],C⟩=some (lev,0)/\Lv N lev:=by
 have hN:=h.few;have few:∀i,(pn N i).length<=1000000:=λi=>by
  unfold pn;by_cases hi:i<N.length
  ·rw[A4 hi];exact(h.nd _ (A9 hi)).few
  ·rw[B5 (by omega)];exact Af _
 have fw:∀y∈N,y.2.1.length<=100:=λy hy=>by
  have h1:=(h.nd y hy).f1;have:(fan y.1).2<=16:=by have k0:=(h.nd y hy).k0;have k1:=(h.nd y hy).k1;have e:y.1=0\/y.1=1\/y.1=2\/y.1=3\/y.1=4\/y.1=5\/y.1=6\/y.1=7\/y.1=8\/y.1=9\/y.1=10\/y.1=11\/y.1=12\/y.1=13\/y.1=14:=(by omega);rcases e with e|e|e|e|e|e|e|e|e|e|e|e|e|e|e<;>(rw[e];decide)
  omega
 have h106:M106.m ⟨N,A,[],C⟩=some ((List.range N.length).map λn=>readers n N 0):=by unfold M106.m;exact AC ⟨by show N.length<=100;omega,fw⟩
 have hfe:∀a,a<N.length->Edges N (a:Int) (((List.range N.length).map λn=>readers n N 0)[a]?.getD []):=λa ha=>by simp only[BY,List.getElem?_range ha,AI,Aj];exact edges
 have hrl:∀(a:Nat) (r:NodeL) (i:Nat),(∀y∈r,y.2.1.length<=100)->(readers a r i).length<=r.length*100:=by
  intro a r
  induction r with
  |nil=>intro i _;exact A5 _
  |cons x r ih=>intro i hr;unfold readers;rw[AG,(pinsOf_ok a i x.2.1 0).2,As];have h1:=ih (i+1) λy hy=>hr y (Bv _ hy);have h2:=hr x (B4 ..);have h3:=List.count_le_length (a:=(a:Int)) (l:=x.2.1);omega
 have hfl:∀a,a<N.length->(((List.range N.length).map λn=>readers n N 0)[a]?.getD []).length<=1000000:=λa ha=>by simp only[BY,List.getElem?_range ha,AI,Aj];have:=hrl a N 0 fw;omega
 obtain⟨lev,lft,rdy,h1,h2⟩:=m71_1 (N:=N) (A:=A) (C:=C) (by omega) few (fan:=(List.range N.length).map λn=>readers n N 0) (by simp) hfe hfl ko0;have h0:=m71_0 (N:=N) (A:=A) (C:=C) (lev:=List.replicate N.length 0) hN;have h3:rdy.length=N.length:=by rw[(nodup_full h2.ki.rn h2.ki.rr (h2.all ht)).length_eq,nums_len]
 refine⟨lev,?_,h2.ll,λi hi hc a ha=>h2.up i hi hc a ha (by
  obtain⟨q1,q2⟩:=ht i hi hc a ha;have:=h2.all ht a.toNat (by omega);rwa [Az q1]at this)⟩
 unfold M71.m;have c1:decide (0<=(N.length:Int))=true:=AB (by omega);have c2:decide ((N.length:Int)<=(N.length:Int))=true:=AB (by omega);have c3:decide ((N.length:Int)*8<=281474976710656)=true:=AB (by omega);have c4:decide ((N.length:Int)<=9223372036854775807)=true:=AB (by omega);have c5:decide ((N.length:Int)<(N.length:Int))=false:=AM (by omega);have h1':iter M71.s1 { QC:=0,Q8:=N.length,Qj:=N.length,Qh:=0,Qq:=N.length,J3:=N.length,Qp:=0,Qg:=(rdn N N.length).length,fan:=(List.range N.length).map λn=>readers n N 0,done:=0,Q0:=N,Q1:=A,Q4:=[],Q3:=C,lev:=List.replicate N.length 0,lft:=lfn N N.length,rdy:=rdn N N.length }=_:=h1;simp only[m113 h,bindO,BE,A7,c1,c2,c3,c4,AH,A6,AA,h0,h106,h1',h3,c5]
end
end Co
end
section
namespace Co
def ky(lv:List Int)(a:Int):Int:=lv[a.toNat]?.getD 0
def m73{lv:List Int}{a b:Int}(ha:In lv.length a)(hb:In lv.length b):∃c,M73.m ⟨a,b,lv⟩=some (c,lv)/\(c<0↔ky lv a<ky lv b):=by
 unfold M73.m M74.m;have e:∀x:Int,M115.m ⟨x⟩=some false:=λx=>by unfold M115.m;simp
 simp only[inR_int ha,inR_int hb,A6,e,bindO,A7];by_cases h:ky lv a<ky lv b
 ·have e1:decide (lv[a.toNat]?.getD 0<lv[b.toNat]?.getD 0)=true:=AB h;simp only[e1,A6];exact⟨-1,rfl,λ_=>h,λ_=>by omega⟩
 ·have e1:decide (lv[a.toNat]?.getD 0<lv[b.toNat]?.getD 0)=false:=AM h;simp only[e1,A7]
  cases decide (lv[a.toNat]?.getD 0>lv[b.toNat]?.getD 0) with
  |true=>exact⟨1,rfl,λh'=>absurd h' (by omega),λh'=>absurd h' h⟩
  |false=>exact⟨0,rfl,λh'=>absurd h' (by omega),λh'=>absurd h' h⟩
structure Re(lv ys xs:List Int):Prop where
 p:xs.Perm ys
 r:∀a∈ys,In lv.length a
def Re.at{lv ys xs:List Int}(h:Re lv ys xs){i:Nat}(hi:i<xs.length):In lv.length xs[i]:=h.r _ (h.p.mem_iff.1 (A9 hi))
def swap_perm{xs:List Int}{j:Nat}(hj:j<xs.length)(h0:0<j):((xs.set j xs[j - 1]).set (j - 1) xs[j]).Perm xs:=by
 refine List.perm_iff_count.2 λv=> ?_;have hs:j - 1<(xs.set j xs[j - 1]).length:=by rw[Ap];omega
 have hne:¬j=j - 1:=by omega
 rw[List.count_set hs,List.count_set hj,BV,AK hne];have h1:(xs[j]==v)=true->0<xs.count v:=λe=>List.count_pos_iff.2 (BU.1 e▸A9 hj);have h2:(xs[j - 1]==v)=true->0<xs.count v:=λe=>List.count_pos_iff.2 (BU.1 e▸A9 (by omega));cases e1:(xs[j]==v)<;>cases e2:(xs[j - 1]==v)<;>simp only[Ab,Al,Aq]<;>first|omega|(have:=h1 e1;omega)|(have:=h2 e2;omega)
def Sj(lv xs:List Int)(i j:Nat):Prop:=∀p q (hp:p<q) (hq:q<xs.length),q<=i->q≠j->ky lv (xs[p]'(by omega))<=ky lv xs[q]
def So(lv xs:List Int)(i:Nat):Prop:=∀p q (hp:p<q) (hq:q<xs.length),q<=i->ky lv (xs[p]'(by omega))<=ky lv xs[q]
abbrev T1(n:Nat)(b:Int)(i j:Nat)(xs lv:List Int):M146.p1X:=⟨0,n,n,0,b,(i:Int),(j:Int),xs,lv⟩
def Sj.swap{lv xs:List Int}{i j:Nat}(h:Sj lv xs i j)(hji:j<=i)(hj:j<xs.length)(h0:0<j)(hlt:ky lv xs[j]<ky lv xs[j - 1]):Sj lv ((xs.set j xs[j - 1]).set (j - 1) xs[j]) i (j - 1):=by
 intro p q hp hq hqi hqj;have hq':q<xs.length:=by simpa using hq
 have g:∀k (hk:k<xs.length),((xs.set j xs[j - 1]).set (j - 1) xs[j])[k]'(by simpa using hk)=if k=j - 1 then xs[j] else if k=j then xs[j - 1] else xs[k]:=λk hk=>by
  rw[BV];by_cases e:j - 1=k
  ·rw[AC e,AC e.symm]
  ·rw[AK e,AK (λh=>e h.symm),BV];by_cases e2:j=k
   ·rw[AC e2,AC e2.symm]
   ·rw[AK e2,AK (λh=>e2 h.symm)]
 rw[g p (by omega),g q hq',AK hqj];by_cases e1:q=j
 ·subst e1;rw[AC rfl];by_cases e2:p=q - 1
  ·rw[AC e2];omega
  ·rw[AK e2,AK (by omega)];exact h p (q - 1) (by omega) (by omega) (by omega) (by omega)
 ·rw[AK e1];split
  ·exact h j q (by omega) hq' hqi e1
  ·split
   ·exact h (j - 1) q (by omega) hq' hqi e1
   ·exact h p q hp hq' hqi e1
def m146_1{n i:Nat}{b:Int}{lv ys xs:List Int}(hn:n<=1000000)(hi:i<n)(hl:xs.length=n)(hr:Re lv ys xs)(hs:So lv xs (i - 1)):
  ∃xs',iter M146.s1 (T1 n b i i xs lv)=some ⟨0,n,n,0,b,(i:Int),xs',lv⟩/\xs'.length=n/\Re lv ys xs'/\So lv xs' i:=by
 obtain⟨y,h1,xs',h2,h3⟩:=iter_inv (step:=M146.s1) (λx=>∃j xs,x=T1 n b i j xs lv/\j<=i/\xs.length=n/\Re lv ys xs/\Sj lv xs i j) (λx=>x.j.toNat)
  (λy=>∃xs',y=(⟨0,n,n,0,b,(i:Int),xs',lv⟩:M146.q1X)/\xs'.length=n/\Re lv ys xs'/\So lv xs' i) (by
   rintro x ⟨j,xs,rfl,hj,hl,hr,hs⟩;have fin:(j=0\/∃h0:0<j,¬ky lv (xs[j]'(by omega))<ky lv (xs[j - 1]'(by omega)))->So lv xs i:=λhf p q hp hq hqi=>by
    by_cases e:q=j
    ·subst e;rcases hf with hf|⟨h0,hf⟩
     ·omega
     ·by_cases e2:p=q - 1
      ·subst e2;omega
      ·have:=hs p (q - 1) (by omega) (by omega) (by omega) (by omega);omega
    ·exact hs p q hp hq hqi e
   unfold M146.s1;by_cases h0:0<j
   ·have c1:decide ((j:Int)>0)=true:=AB (by omega);have hjn:j<xs.length:=(by omega);have hjn':j - 1<xs.length:=(by omega);have w1:i64.wrap ((j:Int) - 1)=((j - 1:Nat):Int):=(by rw[w64 (by omega) (by omega)];omega);have g1:inR (j:Int) n=true:=inR_nat (by omega);have g2:inR ((j - 1:Nat):Int) n=true:=inR_nat (by omega);have gs:j - 1<(xs.set j xs[j - 1]).length:=(by simp;omega);obtain⟨c,k1,k2⟩:=m73 (lv:=lv) (hr.at hjn) (hr.at hjn');simp only[c1,Cb,Bool.or_false,g1,AF,AA,dlt hjn,w1,g2,dlt hjn',A6,hjn,hjn',A4,Aj,k1,bindO];by_cases hlt:ky lv xs[j]<ky lv xs[j - 1]
    ·simp only[AB (k2.2 hlt),A6,dlt gs];exact⟨_,rfl,⟨j - 1,_,rfl,by omega,by simpa using hl,⟨(swap_perm hjn h0).trans hr.p,hr.r⟩,hs.swap hj hjn h0 hlt⟩,by simp;omega⟩
    ·have:¬c<0:=λh=>hlt (k2.1 h);simp only[AM this,A7];exact⟨_,rfl,xs,rfl,hl,hr,fin (.inr ⟨h0,hlt⟩)⟩
   ·have hj0:j=0:=(by omega);subst hj0;have c1:decide (((0:Nat):Int)>0)=false:=rfl;simp only[c1,Bc,CG,A6,A7,bindO];exact⟨_,rfl,xs,rfl,hl,hr,fin (.inl rfl)⟩) (T1 n b i i xs lv) ⟨i,xs,rfl,A5 _,hl,hr,λp q hp hq hqi hqj=>hs p q hp hq (by omega)⟩
 exact⟨xs',by rw[h1,h2],h3⟩
def m146{n b:Nat}{lv ys xs:List Int}(hn:n<=1000000)(hb:b<=n)(hl:xs.length=n)(hr:Re lv ys xs):
  ∃xs',M146.m ⟨0,n,n,0,(b:Int),xs,lv⟩=some (xs',lv)/\xs'.length=n/\Re lv ys xs'/\So lv xs' (b - 1):=by
 obtain⟨y,h1,xs',h2,h3,h4,h5⟩:=iter_inv (step:=M146.s0) (λx=>∃(i:Nat) (xs:List Int),x=(⟨0,n,n,0,(b:Int),(i:Int),xs,lv⟩:M146.p0X)/\1<=i/\(i<=b\/i=1)/\xs.length=n/\Re lv ys xs/\So lv xs (i - 1)) (λx=>b - x.i.toNat)
  (λy=>∃xs',y=(⟨xs',lv⟩:M146.q0X)/\xs'.length=n/\Re lv ys xs'/\So lv xs' (b - 1)) (by
   rintro x ⟨i,xs,rfl,hi1,hib,hl,hr,hs⟩;unfold M146.s0;by_cases hlt:i<b
   ·have c1:=ilt (a:=(i:Int)) (b:=(b:Int)) (by omega);obtain⟨xs',k1,k2,k3,k4⟩:=m146_1 (b:=(b:Int)) hn (show i<n by omega) hl hr hs;have k1':iter M146.s1 { QZ:=0,QY:=n,Qb:=n,a:=0,b:=(b:Int),i:=(i:Int),j:=(i:Int),xs:=xs,lv:=lv }=_:=k1;simp only[c1,A6,k1',bindO,suc (i:=i) (by omega)];exact⟨_,rfl,⟨i+1,xs',rfl,by omega,.inl hlt,k2,k3,k4⟩,by simp;omega⟩
   ·have c1:=inlt (a:=(i:Int)) (b:=(b:Int)) (by omega);simp only[c1,A7];refine⟨_,rfl,xs,rfl,hl,hr,?_⟩;intro p q hp hq hqi;exact hs p q hp hq (by omega)) ⟨0,n,n,0,(b:Int),((1:Nat):Int),xs,lv⟩ ⟨1,xs,rfl,A5 _,.inr rfl,hl,hr,λp q hp hq hqi=>by omega⟩
 have w:i64.wrap (0+1)=((1:Nat):Int):=by rw[w64 (by omega) (by omega)];rfl
 have h1':iter M146.s0 { QZ:=0,QY:=n,Qb:=n,a:=0,b:=(b:Int),i:=((1:Nat):Int),xs:=xs,lv:=lv }=some y:=h1;refine⟨xs',?_,h3,h4,h5⟩;unfold M146.m;simp only[w,h1',bindO,h2]
def m72{n:Nat}{lv ys xs:List Int}(hn:n<=19)(hl:xs.length=n)(hr:Re lv ys xs):
  ∃xs',M72.m ⟨0,n,n,xs,lv⟩=some (xs',lv)/\xs'.length=n/\Re lv ys xs'/\So lv xs' (n - 1):=by
 obtain⟨xs',h1,h2⟩:=m146 (by omega) (A5 n) hl hr;refine⟨xs',?_,h2⟩;unfold M72.m M114.m;have e0:iter M114.s0 { QZ:=0,QY:=n,Qb:=n,n:=(n:Int),bs:=20,a:=0,b:=20,xs:=xs,lv:=lv }=some ⟨0,n,n,(n:Int),20,0,xs,lv⟩:=by rw[iter_eq];unfold M114.s0;have c1:decide ((20:Int)<=(n:Int))=false:=AM (by omega);simp only[c1,A7]
 have e1:iter M114.s1 { QZ:=0,QY:=n,Qb:=n,n:=(n:Int),bs:=20,xs:=xs',lv:=lv }=some ⟨xs',lv⟩:=by rw[iter_eq];unfold M114.s1;have c1:decide ((20:Int)<(n:Int))=false:=AM (by omega);simp only[c1,A7]
 simp only[e0,bindO,h1,e1]
structure Ord(N:NodeL)(o:List Int):Prop where
 p:o.Perm (nums N.length)
 b:∀l1 i l2,o=l1++i::l2->cm N i.toNat=true->∀a∈pn N i.toNat,a∈l1
def So.ord{N:NodeL}{lv o:List Int}(hv:Lv N lv)(ht:Topo N)(hp:o.Perm (nums N.length))(hs:So lv o (N.length - 1)):Ord N o where
 p:=hp
 b:=λl1 i l2 he hc a ha=>by
  have hi:In N.length i:=nums_mem.1 (hp.mem_iff.1 (by rw[he];simp));obtain⟨i0,i1⟩:=hi;have hin:i.toNat<N.length:=(by omega);obtain⟨a0,a1⟩:=ht _ hin hc a ha;have hao:a∈o:=hp.mem_iff.2 (nums_mem.2 ⟨a0,by omega⟩);have hup:=hv.up _ hin hc a ha;have hlen:o.length=N.length:=(by rw[hp.length_eq,nums_len]);rw[he]at hao;rcases Ak.1 hao with h|h
  ·exact h
  ·exfalso;have hle:ky lv i<=ky lv a:=by
    obtain⟨q,hq,e⟩:=BB h;have e1:o[l1.length]? =some i:=(by rw[he];simp);have e2:o[l1.length+q]? =some a:=(by rw[he,AU (by omega),show l1.length+q - l1.length=q by omega,A4 hq,e]);obtain⟨b1,f1⟩:=AD.1 e1;obtain⟨b2,f2⟩:=AD.1 e2
    cases q with
    |zero=>rw[BK,e1]at e2;injection e2 with e2;rw[e2];exact Int.le_refl _
    |succ q=>have:=hs l1.length (l1.length+(q+1)) (by omega) b2 (by omega);rwa [f1,f2]at this
   unfold ky at hle;omega
section
variable {N:NodeL}{A:List (List UInt8)}{C:List Int}
def numi(n i:Nat):List Int:=(List.range n).map λk=>if k<i then (k:Int) else 0
def m40(h:Ck N A C)(ht:Topo N):∃o,M40.m ⟨N,A,[],C⟩=some (o,0)/\Ord N o:=by
 have hN:=h.few;obtain⟨lv,h1,hv⟩:=m71 h ht;have e0:numi N.length 0=List.replicate N.length 0:=BW (by simp[numi]) λk h1 h2=>by simp[numi]
 have e1:numi N.length N.length=nums N.length:=by unfold numi nums;refine Ai λk hk=> ?_;have:=Bg.1 hk;simp[this]
 have hset:∀i,i<N.length->(numi N.length i).set i (i:Int)=numi N.length (i+1):=λi hi=>by
  refine BW (by simp[numi]) λk h1 h2=> ?_;rw[BV];simp only[numi,AP,C4];by_cases e:i=k
  ·subst e;simp
  ·rw[AK e];by_cases e2:k<i
   ·rw[AC e2,AC (by omega)]
   ·rw[AK e2,AK (by omega)]
 have k0:=iter_count (step:=M40.s0) (λi=>⟨0,N.length,N.length,(N.length:Int),(i:Int),N,A,[],C,lv,numi N.length i⟩) (y:=⟨0,N.length,N.length,N,A,[],C,lv,numi N.length N.length⟩) N.length (λi hi=>by
  have c1:=ilt (a:=(i:Int)) (b:=(N.length:Int)) (by omega);have hl:i<(numi N.length i).length:=(by simpa [numi] using hi);unfold M40.s0;simp only[c1,inR_nat hi,A6,AA,AF,dlt hl,suc (i:=i) (by omega),hset i hi]) (by
  have c1:=inlt (a:=(N.length:Int)) (b:=(N.length:Int)) (by omega);unfold M40.s0;simp only[c1,A7])
 rw[e0,e1]at k0;obtain⟨o,h2,h3,h4,h5⟩:=m72 (lv:=lv) (ys:=nums N.length) hN nums_len ⟨List.Perm.refl _,λa ha=>by rw[hv.ll];exact nums_mem.1 ha⟩;refine⟨o,?_,h5.ord hv ht h4.p⟩;unfold M40.m;have c1:decide (0<=(N.length:Int))=true:=AB (by omega);have c2:decide ((N.length:Int)<=(N.length:Int))=true:=AB (by omega);have c3:decide ((N.length:Int)*8<=281474976710656)=true:=AB (by omega);have c4:decide ((N.length:Int)<=9223372036854775807)=true:=AB (by omega);have k0':iter M40.s0 { QC:=0,Q8:=N.length,Qj:=N.length,n:=(N.length:Int),i:=0,Q0:=N,Q1:=A,Q4:=[],Q3:=C,lv:=lv,xs:=List.replicate N.length 0 }=_:=k0;simp only[h1,bindO,BE,A7,c1,c2,c3,c4,AH,A6,AA,k0',h2,AF,leB_of (Nat.le_of_eq h3.symm),AW];rw[AN (by omega)]
end
end Co
end
namespace Co
abbrev V(v:Int):Prop:=0<=v/\v<=3
def m79{a:Int}(h:V a):∃v,M79.m ⟨a⟩=some v/\V v:=by
 unfold M79.m;refine⟨_,rfl,?_⟩;show V (if 2<a then 2 else a);split
 ·exact⟨by omega,by omega⟩
 ·exact h
def w8{x:Int}(h:0<=x)(h':x<=255):IntKind.u8.wrap x=x:=by simp[IntKind.wrap,IntKind.signed,IntKind.bits];omega
def m80{a:Int}(h:V a):∃v,M80.m ⟨a⟩=some v/\V v:=by
 unfold M80.m M117.m;simp only[bindO];by_cases h1:a<=1
 ·rw[AB h1,A6,w8 (by have:=h.1;omega) (by have:=h.1;omega)];exact⟨_,rfl,by have:=h.1;omega,by have:=h.1;omega⟩
 ·rw[AM h1,A7];exact⟨_,rfl,by omega,by omega⟩
def m85{a b:Int}(ha:V a)(hb:V b):∃v,M85.m ⟨a,b⟩=some v/\V v:=by
 unfold M85.m;obtain⟨v,h1,h2⟩:=m79 hb;simp only[h1,bindO]
 cases (a==0) with
 |true=>exact⟨3,rfl,by omega,by omega⟩
 |false=>
  cases (a==1) with
  |true=>exact⟨v,rfl,h2⟩
  |false=>exact⟨2,rfl,by omega,by omega⟩
def m84{s a b:Int}(ha:V a)(hb:V b):∃v,M84.m ⟨s,a,b⟩=some v/\V v:=by
 unfold M84.m;obtain⟨v,h1,h2⟩:=m79 ha;obtain⟨u,h3,h4⟩:=m79 hb;simp only[h1,h3,bindO]
 cases (s==0) with
 |true=>exact⟨v,rfl,h2⟩
 |false=>
  cases (s==1) with
  |true=>exact⟨u,rfl,h4⟩
  |false=>
   cases (a==b) with
   |true=>exact⟨v,rfl,h2⟩
   |false=>exact⟨2,rfl,by omega,by omega⟩
def m81(l:List Int)(hl:l.length<=1000000):∃v,M81.m ⟨l⟩=some v/\V v:=by obtain⟨v,h1,h2⟩:=m118 l 0 1 hl;unfold M81.m;simp only[h1,bindO];exact⟨v,rfl,by rcases h2 with rfl|rfl|rfl<;>omega,by rcases h2 with rfl|rfl|rfl<;>omega⟩
def m82(l:List Int)(hl:l.length<=1000000):∃v,M82.m ⟨l⟩=some v/\V v:=by obtain⟨v,h1,h2⟩:=m118 l 1 0 hl;unfold M82.m;simp only[h1,bindO];exact⟨v,rfl,by rcases h2 with rfl|rfl|rfl<;>omega,by rcases h2 with rfl|rfl|rfl<;>omega⟩
def m122(l:List Int)(hl:l.length<=1000000):∃b,M122.m ⟨l⟩=some b:=by
 obtain⟨r,h1,_⟩:=m170 l 0 hl;obtain⟨s,h2,_⟩:=m170 l 1 hl;unfold M122.m M148.m;simp only[h1,h2,bindO]
 cases decide (r>=0) with
 |true=>exact⟨_,rfl⟩
 |false=>exact⟨_,rfl⟩
end Co
namespace Co
def xor01{a b:Int}(ha:a=0\/a=1)(hb:b=0\/b=1):IntKind.u8.wrap (((BitVec.ofInt 8 a^^^BitVec.ofInt 8 b).toNat:Nat):Int)=0\/IntKind.u8.wrap (((BitVec.ofInt 8 a^^^BitVec.ofInt 8 b).toNat:Nat):Int)=1:=by rcases ha with rfl|rfl<;>rcases hb with rfl|rfl<;>decide
def m83(l:List Int)(hl:l.length<=1000000)(hv:∀v∈l,V v):∃v,M83.m ⟨l⟩=some v/\V v:=by
 obtain⟨y,h1,h2⟩:=iter_inv (step:=M83.s0) (λx=>x.l=l/\x.n=(l.length:Int)/\∃k:Nat,x.i=(k:Int)/\k<=l.length/\(x.out=0\/x.out=1)) (λx=>l.length - x.i.toNat)
  (λy=>match y with|.inl q=>q.out=0\/q.out=1|.inr z=>z.r=2) (by
   rintro⟨out,l',n,i⟩ ⟨h3,h4,k,h5,hk,ho⟩;obtain rfl:l'=l:=h3;obtain rfl:n=(l'.length:Int):=h4;obtain rfl:i=(k:Int):=h5;have ho:out=0\/out=1:=ho;unfold M83.s0 M117.m;by_cases hlt:k<l'.length
   ·have e1:decide ((k:Int)<(l'.length:Int))=true:=AB (by omega);have hvk:=hv _ (A9 hlt);simp only[e1,inR_nat hlt,getD_at hlt,A6,suc (i:=k) (by omega),bindO];by_cases e2:l'[k]<=1
    ·refine⟨.inl ⟨_,l',(l'.length:Int),((k+1:Nat):Int)⟩,by rw[AB e2];rfl,⟨rfl,rfl,k+1,rfl,hlt,?_⟩,by simp;omega⟩;exact xor01 ho (by have:=hvk.1;omega)
    ·exact⟨.inr (.inr ⟨2⟩),by rw[AM e2];rfl,rfl⟩
   ·have e1:decide ((k:Int)<(l'.length:Int))=false:=AM (by omega);simp only[e1,A7];exact⟨.inr (.inl ⟨out⟩),rfl,ho⟩) ⟨0,l,(l.length:Int),0⟩ ⟨rfl,rfl,0,rfl,Af _,.inl rfl⟩
 unfold M83.m;have h1':iter M83.s0 { out:=0,l:=l,n:=(l.length:Int),i:=0 }=some y:=h1;simp only[h1',bindO]
 cases y with
 |inl q=>have h2:q.out=0\/q.out=1:=h2;exact⟨q.out,rfl,by rcases h2 with h|h<;>omega,by rcases h2 with h|h<;>omega⟩
 |inr z=>have h2:z.r=2:=h2;exact⟨z.r,rfl,by omega,by omega⟩
def m119(v:Int):∃b,M119.m ⟨v⟩=some b:=by
 unfold M119.m M120.m;simp only[bindO]
 cases decide (v>3) with
 |true=>exact⟨_,rfl⟩
 |false=>exact⟨_,rfl⟩
def m116a(l:List Int)(hl:l.length<=1000000):∃r,M116a.m ⟨l⟩=some r/\At r l.length:=by
 obtain⟨s,h1,h2⟩:=iter_find (step:=M116a.s0) (λk=>⟨l,(l.length:Int),(k:Int)⟩) l.length (λk=>⟨(k:Int)⟩) (y:=PUnit.unit) (λk hk=>by
   have e1:decide ((k:Int)<(l.length:Int))=true:=AB (by omega);obtain⟨b,hb⟩:=m119 (l[(k:Int).toNat]?.getD 0);unfold M116a.s0;simp only[e1,inR_nat hk,A6,suc (i:=k) (by omega),hb,bindO]
   cases b with
   |true=>exact .inr rfl
   |false=>exact .inl rfl) (by
   have e1:decide ((l.length:Int)<(l.length:Int))=false:=AM (by omega);unfold M116a.s0;simp only[e1,A7])
 unfold M116a.m;have h1':iter M116a.s0 { s:=l,n:=(l.length:Int),i:=0 }=some s:=h1;simp only[h1',bindO];rcases h2 with rfl|⟨k,hk,rfl⟩
 ·exact⟨_,rfl,.inl rfl⟩
 ·exact⟨(k:Int),rfl,.inr ⟨by omega,by omega⟩⟩
def m116b(l:List Int)(hl:l.length<=1000000):∃r,M116b.m ⟨l⟩=some r/\At r l.length:=by
 obtain⟨s,h1,h2⟩:=iter_find (step:=M116b.s0) (λk=>⟨l,(l.length:Int),(k:Int)⟩) l.length (λk=>⟨(k:Int)⟩) (y:=PUnit.unit) (λk hk=>by
   have e1:decide ((k:Int)<(l.length:Int))=true:=AB (by omega);unfold M116b.s0 M121.m;simp only[e1,inR_nat hk,A6,suc (i:=k) (by omega),bindO]
   cases (l[(k:Int).toNat]?.getD 0 !=3) with
   |true=>exact .inr rfl
   |false=>exact .inl rfl) (by
   have e1:decide ((l.length:Int)<(l.length:Int))=false:=AM (by omega);unfold M116b.s0;simp only[e1,A7])
 unfold M116b.m;have h1':iter M116b.s0 { s:=l,n:=(l.length:Int),i:=0 }=some s:=h1;simp only[h1',bindO];rcases h2 with rfl|⟨k,hk,rfl⟩
 ·exact⟨_,rfl,.inl rfl⟩
 ·exact⟨(k:Int),rfl,.inr ⟨by omega,by omega⟩⟩
def m86(l:List Int)(hl:l.length<=1000000)(hv:∀v∈l,V v):∃v,M86.m ⟨l⟩=some v/\V v:=by
 obtain⟨r,h1,h2⟩:=m116b l hl;obtain⟨q,h3,h4⟩:=m116a l hl;obtain⟨b,h5⟩:=m122 l hl;unfold M86.m M76a.m;simp only[h1,h3,h5,bindO];rcases h2 with rfl|⟨h6,h7⟩
 ·exact⟨3,rfl,by omega,by omega⟩
 ·have e0:decide (r<0)=false:=AM (Int.not_lt.2 h6);simp only[e0,A7];obtain⟨k,rfl⟩:=Int.eq_ofNat_of_zero_le h6;have hk:k<l.length:=(by omega);have hV:=hv _ (A9 hk)
  cases b with
  |true=>exact⟨2,rfl,by omega,by omega⟩
  |false=>
   simp only[Bc,A6,A7]
   cases decide (q>=0) with
   |true=>exact⟨2,rfl,by omega,by omega⟩
   |false=>simp only[A7,inR_nat hk,A6,getD_at hk];exact⟨_,rfl,hV⟩
end Co
namespace Co
def two:V 2:=⟨by omega,by omega⟩
def head{l:List Int}{n k:Nat}(hv:∀v∈l,V v)(h:¬(l.length:Int)<n)(hk:k<n):inR (k:Int) l.length=true/\V (l[k]?.getD 0):=by
 have hk':k<l.length:=by omega
 refine⟨inR_nat hk',?_⟩;simp only[hk',A4,Aj];exact hv _ (A9 hk')
def m44(k:Nat)(hk:k<16)(l:List Int)(hl:l.length<=1000000)(hv:∀v∈l,V v):∃v,M44.m ⟨(k:Int),l⟩=some v/\V v:=by
 obtain⟨a1,q1,r1⟩:=m81 l hl;obtain⟨a2,q2,r2⟩:=m82 l hl;obtain⟨a3,q3,r3⟩:=m83 l hl hv;obtain⟨a4,q4,r4⟩:=m86 l hl hv;obtain⟨b1,s1,t1⟩:=m80 r1;obtain⟨b2,s2,t2⟩:=m80 r2;obtain⟨b3,s3,t3⟩:=m80 r3;have key:∀(lo hi:Int) (o:Option Int),M78.m ⟨(k:Int)⟩=some (lo,hi)->(¬(l.length:Int)<lo->∃v,o=some v/\V v)->(∀y:Int×Int,y=(lo,hi)->M44.m ⟨(k:Int),l⟩=(bif bif decide ((l.length:Int)<y.1) then true else decide ((l.length:Int)>y.2) then some 2 else o))->∃v,M44.m ⟨(k:Int),l⟩=some v/\V v:=by
  intro lo hi o _ ho hm;rw[hm _ rfl];by_cases h1:(l.length:Int)<lo
  ·rw[AB h1];exact⟨2,rfl,two⟩
  ·rw[AM h1]
   cases decide ((l.length:Int)>hi) with
   |true=>exact⟨2,rfl,two⟩
   |false=>exact ho h1
 have e:k=0\/k=1\/k=2\/k=3\/k=4\/k=5\/k=6\/k=7\/k=8\/k=9\/k=10\/k=11\/k=12\/k=13\/k=14\/k=15:=by omega
 clear hk;rcases e with rfl|rfl|rfl|rfl|rfl|rfl|rfl|rfl|rfl|rfl|rfl|rfl|rfl|rfl|rfl|rfl
 ·refine key 0 0 (some 2) rfl (λ_=>⟨2,rfl,two⟩) (λy hy=> ?_);subst hy;unfold M44.m;rw[show M78.m ⟨((0:Nat):Int)⟩=some (0,0) from rfl];rfl
 ·refine key 0 0 (some 0) rfl (λ_=>⟨0,rfl,by omega,by omega⟩) (λy hy=> ?_);subst hy;unfold M44.m;rw[show M78.m ⟨((1:Nat):Int)⟩=some (0,0) from rfl];rfl
 ·refine key 0 0 (some 1) rfl (λ_=>⟨1,rfl,by omega,by omega⟩) (λy hy=> ?_);subst hy;unfold M44.m;rw[show M78.m ⟨((2:Nat):Int)⟩=some (0,0) from rfl];rfl
 ·by_cases h1:(l.length:Int)<1
  ·refine key 1 1 (some 2) rfl (λh=>absurd h1 h) (λy hy=> ?_);subst hy;unfold M44.m;rw[show M78.m ⟨((3:Nat):Int)⟩=some (1,1) from rfl];simp only[bindO,AB h1,A6]
  ·obtain⟨i0,v0⟩:=head (n:=1) (k:=0) hv h1 (by omega);obtain⟨c,w1,w2⟩:=m79 v0;refine key 1 1 (some c) rfl (λ_=>⟨c,rfl,w2⟩) (λy hy=> ?_);subst hy;unfold M44.m;rw[show M78.m ⟨((3:Nat):Int)⟩=some (1,1) from rfl];have i0:inR 0 l.length=true:=i0;simp only[w1,i0,bindO];rfl
 ·by_cases h1:(l.length:Int)<1
  ·refine key 1 1 (some 2) rfl (λh=>absurd h1 h) (λy hy=> ?_);subst hy;unfold M44.m;rw[show M78.m ⟨((4:Nat):Int)⟩=some (1,1) from rfl];simp only[bindO,AB h1,A6]
  ·obtain⟨i0,v0⟩:=head (n:=1) (k:=0) hv h1 (by omega);obtain⟨c,w1,w2⟩:=m80 v0;refine key 1 1 (some c) rfl (λ_=>⟨c,rfl,w2⟩) (λy hy=> ?_);subst hy;unfold M44.m;rw[show M78.m ⟨((4:Nat):Int)⟩=some (1,1) from rfl];have i0:inR 0 l.length=true:=i0;simp only[w1,i0,bindO];rfl
 ·refine key 2 16 (some a1) rfl (λ_=>⟨a1,rfl,r1⟩) (λy hy=> ?_);subst hy;unfold M44.m;rw[show M78.m ⟨((5:Nat):Int)⟩=some (2,16) from rfl];simp only[q1,bindO];rfl
 ·refine key 2 16 (some b1) rfl (λ_=>⟨b1,rfl,t1⟩) (λy hy=> ?_);subst hy;unfold M44.m;rw[show M78.m ⟨((6:Nat):Int)⟩=some (2,16) from rfl];simp only[q1,s1,bindO];rfl
 ·refine key 2 16 (some a2) rfl (λ_=>⟨a2,rfl,r2⟩) (λy hy=> ?_);subst hy;unfold M44.m;rw[show M78.m ⟨((7:Nat):Int)⟩=some (2,16) from rfl];simp only[q2,bindO];rfl
 ·refine key 2 16 (some b2) rfl (λ_=>⟨b2,rfl,t2⟩) (λy hy=> ?_);subst hy;unfold M44.m;rw[show M78.m ⟨((8:Nat):Int)⟩=some (2,16) from rfl];simp only[q2,s2,bindO];rfl
 ·refine key 2 16 (some a3) rfl (λ_=>⟨a3,rfl,r3⟩) (λy hy=> ?_);subst hy;unfold M44.m;rw[show M78.m ⟨((9:Nat):Int)⟩=some (2,16) from rfl];simp only[q3,bindO];rfl
 ·refine key 2 16 (some b3) rfl (λ_=>⟨b3,rfl,t3⟩) (λy hy=> ?_);subst hy;unfold M44.m;rw[show M78.m ⟨((10:Nat):Int)⟩=some (2,16) from rfl];simp only[q3,s3,bindO];rfl
 ·by_cases h1:(l.length:Int)<3
  ·refine key 3 3 (some 2) rfl (λh=>absurd h1 h) (λy hy=> ?_);subst hy;unfold M44.m;rw[show M78.m ⟨((11:Nat):Int)⟩=some (3,3) from rfl];simp only[bindO,AB h1,A6]
  ·obtain⟨i0,v0⟩:=head (n:=3) (k:=0) hv h1 (by omega);have i0:inR 0 l.length=true:=i0;obtain⟨i1,v1⟩:=head (n:=3) (k:=1) hv h1 (by omega);have i1:inR 1 l.length=true:=i1;obtain⟨i2,v2⟩:=head (n:=3) (k:=2) hv h1 (by omega);have i2:inR 2 l.length=true:=i2;obtain⟨c,w1,w2⟩:=m84 (s:=l[0]?.getD 0) v1 v2;refine key 3 3 (some c) rfl (λ_=>⟨c,rfl,w2⟩) (λy hy=> ?_);subst hy;unfold M44.m;rw[show M78.m ⟨((11:Nat):Int)⟩=some (3,3) from rfl];simp only[w1,i0,i1,i2,bindO];rfl
 ·by_cases h1:(l.length:Int)<2
  ·refine key 2 2 (some 2) rfl (λh=>absurd h1 h) (λy hy=> ?_);subst hy;unfold M44.m;rw[show M78.m ⟨((12:Nat):Int)⟩=some (2,2) from rfl];simp only[bindO,AB h1,A6]
  ·obtain⟨i0,v0⟩:=head (n:=2) (k:=0) hv h1 (by omega);have i0:inR 0 l.length=true:=i0;obtain⟨i1,v1⟩:=head (n:=2) (k:=1) hv h1 (by omega);have i1:inR 1 l.length=true:=i1;obtain⟨c,w1,w2⟩:=m85 v0 v1;refine key 2 2 (some c) rfl (λ_=>⟨c,rfl,w2⟩) (λy hy=> ?_);subst hy;unfold M44.m;rw[show M78.m ⟨((12:Nat):Int)⟩=some (2,2) from rfl];simp only[w1,i0,i1,bindO];rfl
 ·refine key 1 16 (some a4) rfl (λ_=>⟨a4,rfl,r4⟩) (λy hy=> ?_);subst hy;unfold M44.m;rw[show M78.m ⟨((13:Nat):Int)⟩=some (1,16) from rfl];simp only[q4,bindO];rfl
 ·refine key 1 1 (some 2) rfl (λ_=>⟨2,rfl,two⟩) (λy hy=> ?_);subst hy;unfold M44.m;rw[show M78.m ⟨((14:Nat):Int)⟩=some (1,1) from rfl];rfl
 ·refine key 0 0 (some 2) rfl (λ_=>⟨2,rfl,two⟩) (λy hy=> ?_);subst hy;unfold M44.m;rw[show M78.m ⟨((15:Nat):Int)⟩=some (0,0) from rfl];rfl
end Co
def c44:Con:=Vn M44.g M44.f M44.m default
def c44_ok:J4 prog 44 c44:=conFR_ok M44.known (λ_=>rfl) (λ_=>rfl)
namespace M15
structure gX where(Q0:TN)(Q1:TS)(Q4:TM)(Q3 inn state:TI)
def g:Sg gX:=⟨[.agg cir4,.agg [aB,aB]],[],λa b=>⟨a.1.1,a.1.2.1,a.1.2.2.1,a.1.2.2.2.1,a.2.1.1,a.2.1.2.1⟩,λx=>((x.Q0,(x.Q1,(x.Q4,(x.Q3,())))),((x.inn,(x.state,())),())),λx=>()⟩
abbrev fY:=TI×TI×TI×Int
def f:Ft fY:=⟨none,.tup [.inr [aB,aB],.inl (aB),.inl (iI)],[],λa b=>(a.1.1,a.1.2.1,a.2.1,a.2.2.1),λy=>((y.1,(y.2.1,())),(y.2.2.1,(y.2.2.2,()))),λy=>()⟩
def cl:List CK:=[ck M40.known,ck M41.known,⟨42,M42.con,M42.con_ok⟩,ck M43.known,⟨44,c44,c44_ok⟩,⟨45,M45.con,M45.con_ok⟩]
structure p1X where(XX X2 XB:Nat)(ord:TI)(n i k:Int)(l:TI)(m j:Int)(Q0:TN)(Q1:TS)(Q4:TM)(Q3 inn state QH:TI)(nodes2:TN)(names2:TS)(mems2:TM)(outs2:TI)(Q6 Q5 Q9:Nat)(buf:TI)(kind:Int)(inn2:TI)(mem bit:Int)
def p1:Pt p1X:=⟨[],⟨[(4,.c (.ptr 2 0)),(9,.c (.ptr 4 0)),(10,.c (.slc 5 0 1)),(40,cA),(41,cI),(42,cI),(12,cI),(13,.c (.ptr 6 0)),(59,cA),(60,cI),(61,cI)],[oC,oF,.st [jk,jk] 1 0,oB,.st [aN,aS,aM,aI,.slc 3 0 1] 1 0,oB,.st [iB,aI,iI,iI] 1 0]⟩,λ((_,_,(a,b,c),d,e,f,g,_,h,i,j,_),(k,l,m,n,_),(o,p,_),_,q,(r,s,t,u,(w,x,y),_),z,(A,B,C,D,_),_)=>⟨a,b,c,d,e,f,g,h,i,j,k,l,m,n,o,p,q,r,s,t,u,w,x,y,z,A,B,C,D⟩,λx=>(((),((),((x.XX,x.X2,x.XB),(x.ord,(x.n,(x.i,(x.k,((),(x.l,(x.m,(x.j,()))))))))))),((x.Q0,(x.Q1,(x.Q4,(x.Q3,())))),((x.inn,(x.state,())),(((),((),())),(x.QH,((x.nodes2,(x.names2,(x.mems2,(x.outs2,((x.Q6,x.Q5,x.Q9),()))))),(x.buf,((x.kind,(x.inn2,(x.mem,(x.bit,())))),()))))))))⟩
structure q1X where(XX X2 XB:Nat)(ord:TI)(n i k:Int)(Q0:TN)(Q1:TS)(Q4:TM)(Q3 inn state QH:TI)(nodes2:TN)(names2:TS)(mems2:TM)(outs2:TI)(Q6 Q5 Q9:Nat)(buf:TI)(kind:Int)(inn2:TI)(mem bit:Int)
def q1:Pt q1X:=⟨[],⟨[(4,.c (.ptr 2 0)),(9,.c (.ptr 4 0)),(10,.c (.slc 5 0 1)),(40,cA),(41,cI),(42,cI),(12,cI),(13,.c (.ptr 6 0))],[oC,oF,.st [jk,jk] 1 0,oB,.st [aN,aS,aM,aI,.slc 3 0 1] 1 0,oB,.st [iB,aI,iI,iI] 1 0]⟩,λ((_,_,(a,b,c),d,e,f,g,_),(h,i,j,k,_),(l,m,_),_,n,(o,p,q,r,(s,t,u),_),w,(x,y,z,A,_),_)=>⟨a,b,c,d,e,f,g,h,i,j,k,l,m,n,o,p,q,r,s,t,u,w,x,y,z,A⟩,λx=>(((),((),((x.XX,x.X2,x.XB),(x.ord,(x.n,(x.i,(x.k,((),())))))))),((x.Q0,(x.Q1,(x.Q4,(x.Q3,())))),((x.inn,(x.state,())),(((),((),())),(x.QH,((x.nodes2,(x.names2,(x.mems2,(x.outs2,((x.Q6,x.Q5,x.Q9),()))))),(x.buf,((x.kind,(x.inn2,(x.mem,(x.bit,())))),()))))))))⟩
def s1(x:p1X):Option (p1X⊕q1X):=bif decide (x.j<x.m) then bif inR x.j x.l.length then bif inR (x.l[x.j.toNat]?.getD 0) x.Q5 then bif decide (x.Q6+Int.toNat (x.l[x.j.toNat]?.getD 0)<x.QH.length) then bif leB (x.X2+1) x.XB&&leB (x.XX+x.XB) x.buf.length then some (inl ⟨x.XX,x.X2+1,x.XB,x.ord,x.n,x.i,x.k,x.l,x.m,i64.wrap (x.j+1),x.Q0,x.Q1,x.Q4,x.Q3,x.inn,x.state,x.QH,x.nodes2,x.names2,x.mems2,x.outs2,x.Q6,x.Q5,x.Q9,List.take (x.XX+x.X2) x.buf++[x.QH[x.Q6+Int.toNat (x.l[x.j.toNat]?.getD 0)]?.getD 0]++List.drop (x.XX+x.X2+1) x.buf,x.kind,x.inn2,x.mem,x.bit⟩) else none else none else none else none else some (inr ⟨x.XX,x.X2,x.XB,x.ord,x.n,x.i,x.k,x.Q0,x.Q1,x.Q4,x.Q3,x.inn,x.state,x.QH,x.nodes2,x.names2,x.mems2,x.outs2,x.Q6,x.Q5,x.Q9,x.buf,x.kind,x.inn2,x.mem,x.bit⟩)
def l1:QT:=Qa 0 p1 (.exit 2) q1 s1
def l1_ok  :QO prog 87 none 0 (C15.QR 1) l1:=lc cl 2 (λ_=>none) QX.nil
structure p0X where(XX X2 XB:Nat)(ord:TI)(n i:Int)(Q0:TN)(Q1:TS)(Q4:TM)(Q3 inn state QH:TI)(nodes2:TN)(names2:TS)(mems2:TM)(outs2:TI)(Q6 Q5 Q9:Nat)(buf:TI)
def p0:Pt p0X:=⟨[],⟨[(4,.c (.ptr 2 0)),(9,.c (.ptr 4 0)),(10,.c (.slc 5 0 1)),(40,cA),(41,cI),(42,cI)],[oC,oF,.st [jk,jk] 1 0,oB,.st [aN,aS,aM,aI,.slc 3 0 1] 1 0,oB]⟩,λ((_,_,(a,b,c),d,e,f,_),(g,h,i,j,_),(k,l,_),_,m,(n,o,p,q,(r,s,t),_),u,_)=>⟨a,b,c,d,e,f,g,h,i,j,k,l,m,n,o,p,q,r,s,t,u⟩,λx=>(((),((),((x.XX,x.X2,x.XB),(x.ord,(x.n,(x.i,())))))),((x.Q0,(x.Q1,(x.Q4,(x.Q3,())))),((x.inn,(x.state,())),(((),((),())),(x.QH,((x.nodes2,(x.names2,(x.mems2,(x.outs2,((x.Q6,x.Q5,x.Q9),()))))),(x.buf,())))))))⟩
structure q0X where(QH:TI)(Q0:TN)(Q1:TS)(Q4:TM)(Q3:TI)(Q6 Q5 Q9:Nat)
def q0:Pt q0X:=⟨[],⟨[(4,.c (.ptr 2 0)),(9,.c (.ptr 4 0))],[.st [jk,jk,jk,jk] 1 0,.st [jk,jk] 1 0,.st [jk,jk] 1 0,oB,.st [aN,aS,aM,aI,.slc 3 0 1] 1 0]⟩,λ(_,_,_,_,a,(b,c,d,e,(f,g,h),_),_)=>⟨a,b,c,d,e,f,g,h⟩,λx=>(((),((),())),(((),((),((),((),())))),(((),((),())),(((),((),())),(x.QH,((x.Q0,(x.Q1,(x.Q4,(x.Q3,((x.Q6,x.Q5,x.Q9),()))))),()))))))⟩
def s0(x:p0X):Option (p0X⊕q0X):=bif decide (x.i<x.n) then bif inR x.i x.ord.length then bif inR (x.ord[x.i.toNat]?.getD 0) x.nodes2.length then bindO (M43.m ⟨(x.nodes2[Int.toNat (x.ord[x.i.toNat]?.getD 0)]?.getD (0,[],0,0)).1⟩) λy=>bif !y then some (inl ⟨x.XX,x.X2,x.XB,x.ord,x.n,i64.wrap (x.i+1),x.Q0,x.Q1,x.Q4,x.Q3,x.inn,x.state,x.QH,x.nodes2,x.names2,x.mems2,x.outs2,x.Q6,x.Q5,x.Q9,x.buf⟩) else bif decide (0<=(x.XB:Int)) then bindO (iter s1 ⟨x.XX,0,x.XB,x.ord,x.n,x.i,x.ord[x.i.toNat]?.getD 0,(x.nodes2[Int.toNat (x.ord[x.i.toNat]?.getD 0)]?.getD (0,[],0,0)).2.1,(↑(List.length (x.nodes2[Int.toNat (x.ord[x.i.toNat]?.getD 0)]?.getD (0,[],0,0)).2.1):Int),0,x.Q0,x.Q1,x.Q4,x.Q3,x.inn,x.state,x.QH,x.nodes2,x.names2,x.mems2,x.outs2,x.Q6,x.Q5,x.Q9,x.buf,(x.nodes2[Int.toNat (x.ord[x.i.toNat]?.getD 0)]?.getD (0,[],0,0)).1,(x.nodes2[Int.toNat (x.ord[x.i.toNat]?.getD 0)]?.getD (0,[],0,0)).2.1,(x.nodes2[Int.toNat (x.ord[x.i.toNat]?.getD 0)]?.getD (0,[],0,0)).2.2.1,(x.nodes2[Int.toNat (x.ord[x.i.toNat]?.getD 0)]?.getD (0,[],0,0)).2.2.2⟩) λy=>bindO (bif leB (y.XX+y.X2) y.buf.length&&true then M44.m ⟨y.kind,List.take y.X2 (List.drop y.XX y.buf)⟩ else none) λy_1=>bif inR y.k y.Q5 then bif decide (y.Q6+y.k.toNat<y.QH.length) then some (inl ⟨y.XX,y.X2,y.XB,y.ord,y.n,i64.wrap (y.i+1),y.Q0,y.Q1,y.Q4,y.Q3,y.inn,y.state,y.QH.set (y.Q6+y.k.toNat) y_1,y.nodes2,y.names2,y.mems2,y.outs2,y.Q6,y.Q5,y.Q9,y.buf⟩) else none else none else none else none else none else some (inr ⟨x.QH,x.nodes2,x.names2,x.mems2,x.outs2,x.Q6,x.Q5,x.Q9⟩)
def l0:QT:=Qa 0 p0 (.exit 0) q0 s0
def l0_ok  :QO prog 87 none 0 (C15.QR 0) l0:=lc cl 1 (J2 [(1,l1)]) (ac 1 l1_ok QX.nil)
def m(x:gX):Option fY:=bindO (M40.m ⟨x.Q0,x.Q1,x.Q4,x.Q3⟩) λy=>bif y.2==0 then bindO (M41.m ⟨x.Q0,x.Q1,x.Q4,x.Q3,x.inn,x.state⟩) λy_1=>bif y_1 !=0 then some ([],[],[],y_1) else bif decide (0<=(x.Q0.length:Int))&&decide ((x.Q0.length:Int)<=(x.Q0.length:Int))&&decide ((x.Q0.length:Int)*(↑1:Int)<=281474976710656)&&decide ((x.Q0.length:Int)<=9223372036854775807) then bindO (M42.m ⟨x.Q0,x.Q1,x.Q4,x.Q3,0,(x.Q0.length:Int).toNat,(x.Q0.length:Int).toNat,x.inn,x.state,List.replicate (x.Q0.length:Int).toNat (0:Int)⟩) λy_2=>bindO (iter s0 ⟨0,0,16,y.1,(y.1.length:Int),0,x.Q0,x.Q1,x.Q4,x.Q3,x.inn,x.state,y_2,x.Q0,x.Q1,x.Q4,x.Q3,0,(x.Q0.length:Int).toNat,(x.Q0.length:Int).toNat,List.replicate 16 (0:Int)⟩) λy=>bindO (M45.m ⟨y.Q0,y.Q1,y.Q4,y.Q3,y.Q6,y.Q5,y.Q9,y.QH⟩) λy_3=>bif leB (y.Q6+y.Q5) y.QH.length&&true&&true&&true then some (y_3.1,y_3.2.1,List.take y.Q5 (List.drop y.Q6 y.QH),0) else none else none else bif y.2 !=0 then some ([],[],[],y.2) else bif decide (0<=(x.Q0.length:Int))&&decide ((x.Q0.length:Int)<=(x.Q0.length:Int))&&decide ((x.Q0.length:Int)*(↑1:Int)<=281474976710656)&&decide ((x.Q0.length:Int)<=9223372036854775807) then bindO (M42.m ⟨x.Q0,x.Q1,x.Q4,x.Q3,0,(x.Q0.length:Int).toNat,(x.Q0.length:Int).toNat,x.inn,x.state,List.replicate (x.Q0.length:Int).toNat (0:Int)⟩) λy_1=>bindO (iter s0 ⟨0,0,16,y.1,(y.1.length:Int),0,x.Q0,x.Q1,x.Q4,x.Q3,x.inn,x.state,y_1,x.Q0,x.Q1,x.Q4,x.Q3,0,(x.Q0.length:Int).toNat,(x.Q0.length:Int).toNat,List.replicate 16 (0:Int)⟩) λy=>bindO (M45.m ⟨y.Q0,y.Q1,y.Q4,y.Q3,y.Q6,y.Q5,y.Q9,y.QH⟩) λy_2=>bif leB (y.Q6+y.Q5) y.QH.length&&true&&true&&true then some (y_2.1,y_2.2.1,List.take y.Q5 (List.drop y.Q6 y.QH),0) else none else none
def known:QQ prog 15 g f m:=
 kc cl s15 (J2 [(0,l0),(1,l1)]) (ac 0 l0_ok QX.nil)
end M15
section
namespace Co
def ofN(N:NodeL)(k:Int)(i:Nat):List Int:=(nums i).filter λa=>kd N a==k
def ofK(N:NodeL)(k:Int):List Int:=ofN N k N.length
def ofN_len{N:NodeL}{k:Int}{i:Nat}:(ofN N k i).length<=i:=by have:=CD (λa=>kd N a==k) (nums i);rwa [nums_len]at this
def ofK_mem{N:NodeL}{k a:Int}:a∈ofK N k↔In N.length a/\kd N a=k:=by unfold ofK ofN;rw[CY,nums_mem,BU]
structure Flt where(rd:Int->Int->Int->Int)(nt:Int->Int->Int)
def good:Flt:=⟨λ_ _ v=>v,λ_ v=>v⟩
def ev(k:Int)(l:List Int):Int:=(M44.m ⟨k,l⟩).getD 2
def rds(F:Flt)(N:NodeL)(QH:List Int)(i:Int):List Int:=(pn N i.toNat).mapIdx λk a=>F.rd i (k:Int) (ky QH a)
def nxt(F:Flt)(N:NodeL)(QH:List Int)(i:Int):List Int:=if cm N i.toNat=true then QH.set i.toNat (ev (kd N i) (rds F N QH i)) else QH
def stp(F:Flt)(N:NodeL)(QH:List Int)(i:Int):List Int:=(nxt F N QH i).set i.toNat (F.nt i (ky (nxt F N QH i) i))
def sim(F:Flt)(N:NodeL)(o b:List Int):List Int:=o.foldl (stp F N) b
def puts(l vals:List Int):Nat->List Int->List Int
 |0,xs=>xs
 |i+1,xs=>(puts l vals i xs).set (l[i]?.getD 0).toNat (vals[i]?.getD 0)
def base(N:NodeL)(inn st:List Int):List Int:=puts (ofK N 14) st (ofK N 14).length (puts (ofK N 0) inn (ofK N 0).length (List.replicate N.length 0))
def rdv(v:Int):Int:=if 2<v then 2 else v
def pin0(N:NodeL)(i:Int):Int:=(pn N i.toNat)[0]?.getD 0
def nexts(F:Flt)(N:NodeL)(QH:List Int):List Int:=(ofK N 14).map λi=>rdv (F.rd i 0 (ky QH (pin0 N i)))
def outsV(C QH:List Int):List Int:=C.map (ky QH)
abbrev AllV(l:List Int):Prop:=∀v∈l,V v
def allV_ky{l:List Int}(h:AllV l)(a:Int):V (ky l a):=by
 unfold ky;by_cases ha:a.toNat<l.length
 ·rw[A4 ha];exact h _ (A9 ha)
 ·rw[B5 (by omega)];exact⟨by simp,by simp⟩
def allV_set{l:List Int}(h:AllV l){i:Nat}{v:Int}(hv:V v):AllV (l.set i v):=λx hx=>by
 rcases List.mem_or_eq_of_mem_set hx with hx|hx
 ·exact h x hx
 ·rw[hx];exact hv
def ev_ok{k:Int}{l:List Int}(h0:0<=k)(h1:k<16)(hl:l.length<=1000000)(hv:AllV l):M44.m ⟨k,l⟩=some (ev k l)/\V (ev k l):=by
 obtain⟨v,e1,e2⟩:=m44 k.toNat (by omega) l hl hv;rw[Az h0]at e1;have:ev k l=v:=by unfold ev;rw[e1];rfl
 rw[this];exact⟨e1,e2⟩
def puts_len{l vals:List Int}:∀{i:Nat} {xs:List Int},(puts l vals i xs).length=xs.length
 |0,_=>rfl
 |i+1,xs=>by unfold puts;rw[Ap];exact puts_len
def base_len{N:NodeL}{inn st:List Int}:(base N inn st).length=N.length:=by unfold base;rw[puts_len,puts_len,Bk]
def puts_V{l vals:List Int}(hv:AllV vals):∀{i:Nat} {xs:List Int},AllV xs->AllV (puts l vals i xs)
 |0,_,h=>h
 |i+1,xs,h=>by
  unfold puts;refine allV_set (puts_V hv h) ?_;by_cases hi:i<vals.length
  ·rw[A4 hi];exact hv _ (A9 hi)
  ·rw[B5 (by omega)];exact⟨by simp,by simp⟩
def base_V{N:NodeL}{inn st:List Int}(hi:AllV inn)(hs:AllV st):AllV (base N inn st):=
 puts_V hs (puts_V hi λv hv=>by rw[(List.mem_replicate.1 hv).2];exact⟨by omega,by omega⟩)
structure Flt.Ok(F:Flt):Prop where
 rd:∀i k v,V v->V (F.rd i k v)
 nt:∀i v,V v->V (F.nt i v)
def good_ok:good.Ok:=⟨λ_ _ _ h=>h,λ_ _ h=>h⟩
def rds_V{F:Flt}(hF:F.Ok){N:NodeL}{QH:List Int}{i:Int}(h:AllV QH):AllV (rds F N QH i):=λv hv=>by obtain⟨k,hk,e⟩:=List.mem_mapIdx.1 hv;rw[<-e];exact hF.rd _ _ _ (allV_ky h _)
def kd_at{N:NodeL}{i:Nat}:kd N (i:Int)=(N[i]?.getD (0,[],0,0)).1:=rfl
section
variable {N:NodeL}{A:List (List UInt8)}{C:List Int}
def Ck.node(h:Ck N A C){i:Int}(hi:In N.length i):∃x,x=N[i.toNat]?.getD (0,[],0,0)/\Nd N x:=by
 obtain⟨h0,h1⟩:=hi;have hn:i.toNat<N.length:=by omega
 exact⟨N[i.toNat],by rw[A4 hn];rfl,h.nd _ (A9 hn)⟩
def Ck.kind(h:Ck N A C){i:Int}(hi:In N.length i):0<=kd N i/\kd N i<15:=by obtain⟨x,e,hx⟩:=h.node hi;unfold kd;rw[<-e];exact⟨hx.k0,hx.k1⟩
def fan16{k:Int}(h0:0<=k)(h1:k<15):(fan k).2<=16:=by
 have e:k=0\/k=1\/k=2\/k=3\/k=4\/k=5\/k=6\/k=7\/k=8\/k=9\/k=10\/k=11\/k=12\/k=13\/k=14:=by omega
 rcases e with e|e|e|e|e|e|e|e|e|e|e|e|e|e|e<;>(rw[e];decide)
def Ck.pins(h:Ck N A C){i:Int}(hi:In N.length i):(pn N i.toNat).length<=16/\∀a∈pn N i.toNat,In N.length a:=by obtain⟨x,e,hx⟩:=h.node hi;unfold pn;rw[<-e];have:=fan16 hx.k0 hx.k1;have:=hx.f1;exact⟨by omega,hx.pins⟩
def Ck.dff(h:Ck N A C){i:Int}(hi:In N.length i)(hk:kd N i=14):(pn N i.toNat).length=1:=by
 obtain⟨x,e,hx⟩:=h.node hi;have e1:x.1=14:=by rw[<-hk];unfold kd;rw[e]
 unfold pn;rw[<-e];have h0:=hx.f0;have h1:=hx.f1;rw[e1]at h0 h1;have h0:(1:Int)<=x.2.1.length:=h0;have h1:(x.2.1.length:Int)<=1:=h1;omega
def rds_len{F:Flt}{QH:List Int}{i:Int}:(rds F N QH i).length=(pn N i.toNat).length:=List.length_mapIdx
def nxt_len{F:Flt}{QH:List Int}{i:Int}:(nxt F N QH i).length=QH.length:=by unfold nxt;split<;>simp
def stp_len{F:Flt}{QH:List Int}{i:Int}:(stp F N QH i).length=QH.length:=by unfold stp;rw[Ap,nxt_len]
def sim_len{F:Flt}{o:List Int}:∀{b:List Int},(sim F N o b).length=b.length:=by
 induction o with
 |nil=>intro b;rfl
 |cons i o ih=>intro b;show(sim F N o (stp F N b i)).length=_;rw[ih,stp_len]
def stp_V(h:Ck N A C){F:Flt}(hF:F.Ok){QH:List Int}(hv:AllV QH){i:Int}(hi:In N.length i):AllV (stp F N QH i):=by
 have h1:AllV (nxt F N QH i):=by
  unfold nxt;split
  ·have hk:=h.kind hi;exact allV_set hv (ev_ok hk.1 (by omega) (by rw[rds_len];have:=(h.pins hi).1;omega) (rds_V hF hv)).2
  ·exact hv
 exact allV_set h1 (hF.nt _ _ (allV_ky h1 _))
def sim_V(h:Ck N A C){F:Flt}(hF:F.Ok){o:List Int}:∀{b:List Int},(∀i∈o,In N.length i)->AllV b->AllV (sim F N o b):=by
 induction o with
 |nil=>intro b _ hb;exact hb
 |cons i o ih=>intro b ho hb;exact ih (λj hj=>ho j (Bv _ hj)) (stp_V h hF hb (ho i (B4 ..)))
def sim_snoc{F:Flt}{o b:List Int}{j:Nat}(hj:j<o.length):sim F N (o.take (j+1)) b=stp F N (sim F N (o.take j) b) o[j]:=by unfold sim;rw[take_succ' hj,List.foldl_append];rfl
def m111(k v:Int):M111.m ⟨[k],v⟩=some (v==k):=by
 have c1:decide ((0:Int)<(([k]:List Int).length:Int))=true:=rfl;have c2:inR 0 ([k]:List Int).length=true:=rfl;have c3:([k]:List Int)[(0:Int).toNat]?.getD 0=k:=rfl;unfold M111.m M141.m
 cases hc:(v==k) with
 |true=>have e1:iter M141.s0 { s:=[k],v:=v,n:=(([k]:List Int).length:Int),i:=0 }=some (.inr ⟨0⟩):=(by rw[iter_eq];unfold M141.s0;simp only[c1,c2,c3,A6,hc]);simp only[e1];rfl
 |false=>have e1:iter M141.s0 { s:=[k],v:=v,n:=(([k]:List Int).length:Int),i:=0 }=some (.inl ()):=(by rw[iter_eq];unfold M141.s0;simp only[c1,c2,c3,A6,hc,A7];rw[iter_eq];rfl);simp only[e1];rfl
def m34{xs:List Int}(h:xs.length<=1000000):M34o.m ⟨0,xs.length,xs⟩=some (0,xs.length,xs.length,xs):=by unfold M34o.m;have c1:decide (0<=(xs.length:Int))=true:=AB (by omega);have c2:decide ((xs.length:Int)<=(xs.length:Int))=true:=AB (by omega);simp only[c1,c2,AA,AH,A6]
def m68(h:Ck N A C)(k:Int):M68.m ⟨N,A,[],C,[k]⟩=some (ofK N k):=by
 have hN:=h.few;have hl:=ofN_len (N:=N) (k:=k) (i:=N.length);have key:=iter_count (step:=M68.s0) (λi=>⟨[k],0,(ofN N k i).length,N,(N.length:Int),(i:Int),N,A,[],C,ofN N k i⟩) (y:=⟨0,(ofN N k N.length).length,N,A,[],C,ofN N k N.length⟩) N.length (λi hi=>by
  have c1:=ilt (a:=(i:Int)) (b:=(N.length:Int)) (by omega);have hl:=ofN_len (N:=N) (k:=k) (i:=i);have hs:ofN N k (i+1)=if kd N (i:Int)==k then ofN N k i++[(i:Int)] else ofN N k i:=by
   unfold ofN;rw[nums_succ,C8]
   cases e:kd N (i:Int)==k with
   |true=>rw[CP (p:=λa=>kd N a==k) e];rfl
   |false=>rw[CQ (p:=λa=>kd N a==k) (by show¬(kd N (i:Int)==k)=true;rw[e];simp)];simp
  unfold M68.s0;simp only[c1,inR_nat hi,A6,AA,m111,bindO,suc (i:=i) (by omega)];rw[hs];rw[kd_at]
  cases (N[i]?.getD (0,[],0,0)).1==k with
  |true=>simp only[A6,eqN_of rfl,room (n:=(ofN N k i).length+1) (b:=8) (by omega) (by omega),AH,Aq,AG,Bj]
  |false=>simp only[A7];rfl) (by
  have c1:=inlt (a:=(N.length:Int)) (b:=(N.length:Int)) (by omega);unfold M68.s0;simp only[c1,A7])
 have key':iter M68.s0 { kinds:=[k],QC:=0,Q8:=0,ns:=N,n:=(N.length:Int),i:=0,Q0:=N,Q1:=A,Q4:=[],Q3:=C,xs:=[] }=_:=key;unfold M68.m;simp only[key',bindO,m34 (xs:=ofN N k N.length) (by omega),AF,leB_of (A5 _),AH,A6,AW,Aa];rfl
def m36(h:Ck N A C):M36.m ⟨N,A,[],C⟩=some (ofK N 14):=by unfold M36.m;simp only[m68 h,bindO]
def m75(h:Ck N A C):M75.m ⟨N,A,[],C⟩=some (ofK N 0):=by unfold M75.m;simp only[m68 h,bindO]
def m76c{l:List Int}(hl:l.length<=1000000)(hv:AllV l):M76c.m ⟨l⟩=some false:=by
 have key:=iter_count (step:=M116c.s0) (λi=>⟨l,(l.length:Int),(i:Int)⟩) (y:=.inl ()) l.length (λi hi=>by
  have c1:=ilt (a:=(i:Int)) (b:=(l.length:Int)) (by omega);have:=(hv _ (A9 hi)).2;have c2:M77.m ⟨l[i]⟩=some false:=(by show some (decide (l[i]>3))=_;rw[AM (by omega)]);unfold M116c.s0;simp only[c1,inR_nat hi,A6,getD_at hi,c2,bindO,A7,suc (i:=i) (by omega)]) (by
  have c1:=inlt (a:=(l.length:Int)) (b:=(l.length:Int)) (by omega);unfold M116c.s0;simp only[c1,A7])
 have key':iter M116c.s0 { s:=l,n:=(l.length:Int),i:=0 }=_:=key;unfold M76c.m M116c.m;simp only[key',bindO,sumC];rfl
structure Pat(N:NodeL)(inn st:List Int):Prop where
 li:inn.length=(ofK N 0).length
 ls:st.length=(ofK N 14).length
 vi:AllV inn
 vs:AllV st
def m41(h:Ck N A C){inn st:List Int}(hp:Pat N inn st):M41.m ⟨N,A,[],C,inn,st⟩=some 0:=by
 have hN:=h.few;have h15:ofK N 15=[]:=CS.2 λa ha=>by obtain⟨h1,h2⟩:=ofK_mem.1 ha;have:=(h.kind h1).2;omega
 have li:=hp.li;have ls:=hp.ls;have l1:=ofN_len (N:=N) (k:=0) (i:=N.length);have l2:=ofN_len (N:=N) (k:=14) (i:=N.length);have l1:(ofK N 0).length<=N.length:=l1;have l2:(ofK N 14).length<=N.length:=l2;have c1:((inn.length:Int) !=((ofK N 0).length:Int))=false:=by rw[li];simp
 have c2:((st.length:Int) !=((ofK N 14).length:Int))=false:=by rw[ls];simp
 unfold M41.m;simp only[m68 h,h15,m75 h,m36 h,bindO,c1,m76c (l:=inn) (by omega) hp.vi,m76c (l:=st) (by omega) hp.vs,Bc,A6,A7,c2];rfl
end
end Co
end
section
namespace Co
section
variable {N:NodeL}{A:List (List UInt8)}{C:List Int}
def ofK_at{k:Int}{i:Nat}(hi:i<(ofK N k).length):In N.length (ofK N k)[i]/\kd N (ofK N k)[i]=k:=ofK_mem.1 (A9 hi)
def puts_succ{l vals xs:List Int}{i:Nat}(h1:i<l.length)(h2:i<vals.length):(puts l vals i xs).set l[i].toNat vals[i]=puts l vals (i+1) xs:=by rw[puts];simp only[h1,h2,A4,Aj]
def m42(h:Ck N A C){inn st:List Int}(hp:Pat N inn st):M42.m ⟨N,A,[],C,0,N.length,N.length,inn,st,List.replicate N.length 0⟩=some (base N inn st):=by
 have hN:=h.few;have k0:=iter_count (step:=M42.s0) (λi=>⟨ofK N 0,((ofK N 0).length:Int),(i:Int),puts (ofK N 0) inn i (List.replicate N.length 0),N,A,[],C,0,N.length,N.length,inn,st⟩) (y:=⟨puts (ofK N 0) inn (ofK N 0).length (List.replicate N.length 0),N,A,[],C,0,N.length,N.length,inn,st⟩) (ofK N 0).length (λi hi=>by
  have c1:=ilt (a:=(i:Int)) (b:=((ofK N 0).length:Int)) (by omega);have hr:=(ofK_at hi).1;have hii:i<inn.length:=(by rw[hp.li];exact hi);have hlt:(ofK N 0)[i].toNat<(puts (ofK N 0) inn i (List.replicate N.length 0)).length:=(by rw[puts_len,Bk];obtain⟨q1,q2⟩:=hr;omega);have hib:i<1000000:=(by have:(ofK N 0).length<=N.length:=ofN_len;omega);unfold M42.s0;simp only[c1,inR_nat hi,inR_nat hii,A6,getD_at hi,getD_at hii,inR_int hr,AF,dlt hlt,suc (i:=i) (by omega),puts_succ hi hii]) (by
  have c1:=inlt (a:=((ofK N 0).length:Int)) (b:=((ofK N 0).length:Int)) (by omega);unfold M42.s0;simp only[c1,A7])
 have k1:=iter_count (step:=M42.s1) (λi=>⟨ofK N 14,((ofK N 14).length:Int),(i:Int),puts (ofK N 14) st i (puts (ofK N 0) inn (ofK N 0).length (List.replicate N.length 0)),N,A,[],C,0,N.length,N.length,inn,st⟩) (y:=⟨base N inn st⟩) (ofK N 14).length (λi hi=>by
  have c1:=ilt (a:=(i:Int)) (b:=((ofK N 14).length:Int)) (by omega);have hr:=(ofK_at hi).1;have hii:i<st.length:=(by rw[hp.ls];exact hi);have hlt:(ofK N 14)[i].toNat<(puts (ofK N 14) st i (puts (ofK N 0) inn (ofK N 0).length (List.replicate N.length 0))).length:=(by rw[puts_len,puts_len,Bk];obtain⟨q1,q2⟩:=hr;omega);have hib:i<1000000:=(by have:(ofK N 14).length<=N.length:=ofN_len;omega);unfold M42.s1;simp only[c1,inR_nat hi,inR_nat hii,A6,getD_at hi,getD_at hii,inR_int hr,AF,dlt hlt,suc (i:=i) (by omega),puts_succ hi hii]) (by
  have c1:=inlt (a:=((ofK N 14).length:Int)) (b:=((ofK N 14).length:Int)) (by omega);unfold M42.s1;simp only[c1,A7];rfl)
 have k0':iter M42.s0 { l:=ofK N 0,n:=((ofK N 0).length:Int),i:=0,xs:=List.replicate N.length 0,Q0:=N,Q1:=A,Q4:=[],Q3:=C,Q6:=0,Q5:=N.length,Q9:=N.length,inn:=inn,state:=st }=_:=k0;have k1':iter M42.s1 { l:=ofK N 14,n:=((ofK N 14).length:Int),i:=0,xs:=puts (ofK N 0) inn (ofK N 0).length (List.replicate N.length 0),Q0:=N,Q1:=A,Q4:=[],Q3:=C,Q6:=0,Q5:=N.length,Q9:=N.length,inn:=inn,state:=st }=_:=k1;unfold M42.m;simp only[m75 h,bindO,k0',m36 h,k1']
def m87{QH:List Int}(hv:AllV QH){a:Int}(ha:In QH.length a):M87.m ⟨N,A,[],C,QH,a⟩=some (ky QH a):=by
 obtain⟨q1,q2⟩:=ha;have c1:=inlt (a:=a) (b:=0) (by omega);have c2:decide (a>=(QH.length:Int))=false:=AM (by omega);have hk:=allV_ky hv a;have c3:M120.m ⟨QH[a.toNat]?.getD 0⟩=some (ky QH a):=by unfold M120.m;have:decide (QH[a.toNat]?.getD 0>3)=false:=AM (by unfold ky at hk;omega);simp only[this];rfl
 unfold M87.m;simp only[c1,c2,A7,inR_int ⟨q1,q2⟩,A6,c3,bindO]
def m79r(v:Int):M79.m ⟨v⟩=some (rdv v):=rfl
def m88{l:List Int}(hl:l.length<=1000000):M88.m ⟨l⟩=some l:=by unfold M88.m;have c1:decide (0<=(l.length:Int))=true:=AB (by omega);have c2:decide ((l.length:Int)<=(l.length:Int))=true:=AB (by omega);simp only[c1,c2,AA,AH,A6,Nat.sub_zero,AW,Aa]
def map_snoc{α:Type}{f:Int->α}{l:List Int}{i:Nat}(hi:i<l.length):(l.take i).map f++[f l[i]]=(l.take (i+1)).map f:=by rw[take_succ' hi,AS];rfl
def m45(h:Ck N A C){QH:List Int}(hl:QH.length=N.length)(hv:AllV QH):M45.m ⟨N,A,[],C,0,N.length,N.length,QH⟩=some (outsV C QH,nexts good N QH,QH):=by
 have hN:=h.few;have ht:List.take N.length QH=QH:=AN (by omega);have hC:=h.fewC;have lK:(ofK N 14).length<=N.length:=ofN_len;have k0:=iter_count (step:=M45.s0) (λi=>⟨C,(C.length:Int),(i:Int),QH,N,A,[],C,0,N.length,N.length,0,i,(C.take i).map (ky QH)⟩) (y:=⟨QH,N,A,[],C,0,N.length,N.length,outsV C QH⟩) C.length (λi hi=>by
  have c1:=ilt (a:=(i:Int)) (b:=(C.length:Int)) (by omega);have hr:In QH.length C[i]:=(by rw[hl];exact h.Q3 _ (A9 hi));unfold M45.s0;simp only[c1,inR_nat hi,A6,AF,AW,ht,hl,leB_of (A5 N.length),getD_at hi,m87 hv hr,bindO,eqN_of rfl,eqN_of (show((C.take i).map (ky QH)).length=i by simp;omega),room (n:=i+1) (b:=1) (by omega) (by omega),AH,suc (i:=i) (by omega),map_snoc hi]) (by
  have c1:=inlt (a:=(C.length:Int)) (b:=(C.length:Int)) (by omega);unfold M45.s0;simp only[c1,A7,AF,Aa,AE,leB_of (A5 _),AH,A6,AW];rw[AN (by simp)];rfl)
 have k1:=iter_count (step:=M45.s1) (λi=>⟨ofK N 14,((ofK N 14).length:Int),(i:Int),QH,N,A,[],C,0,N.length,N.length,outsV C QH,0,i,((ofK N 14).take i).map λi=>rdv (ky QH (pin0 N i))⟩) (y:=⟨QH,outsV C QH,nexts good N QH⟩) (ofK N 14).length (λi hi=>by
  have c1:=ilt (a:=(i:Int)) (b:=((ofK N 14).length:Int)) (by omega);obtain⟨hr,hk⟩:=ofK_at hi;have hp:=h.dff hr hk;have h0:0<(pn N (ofK N 14)[i].toNat).length:=(by omega);have e5:(N[(ofK N 14)[i].toNat]?.getD (0,[],0,0)).2.1=pn N (ofK N 14)[i].toNat:=rfl;have c2:((((pn N (ofK N 14)[i].toNat).length:Nat):Int)==1)=true:=(by rw[hp];rfl);have c3:inR 0 (pn N (ofK N 14)[i].toNat).length=true:=(by rw[hp];rfl);have hpin:In QH.length (pin0 N (ofK N 14)[i]):=(by rw[hl];unfold pin0;rw[A4 h0];exact(h.pins hr).2 _ (A9 h0));have e6:(pn N (ofK N 14)[i].toNat)[0]?.getD 0=pin0 N (ofK N 14)[i]:=rfl;unfold M45.s1;simp only[c1,inR_nat hi,A6,getD_at hi,inR_int hr,e5,c2,c3,e6,AF,AW,ht,hl,leB_of (A5 N.length),m87 hv hpin,bindO,m79r,eqN_of rfl,eqN_of (show(((ofK N 14).take i).map λi=>rdv (ky QH (pin0 N i))).length=i by simp;omega),room (n:=i+1) (b:=1) (by omega) (by omega),AH,suc (i:=i) (by omega),map_snoc (f:=λi=>rdv (ky QH (pin0 N i))) hi]) (by
  have c1:=inlt (a:=((ofK N 14).length:Int)) (b:=((ofK N 14).length:Int)) (by omega);unfold M45.s1;simp only[c1,A7,AF,Aa,AE,leB_of (A5 _),AH,A6,AW];rw[AN (by simp)];rfl)
 have k0':iter M45.s0 { l:=C,n:=(C.length:Int),i:=0,xs:=QH,Q0:=N,Q1:=A,Q4:=[],Q3:=C,Q6:=0,Q5:=N.length,Q9:=N.length,a_lo:=0,q6:=0,oxs:=[] }=_:=k0;have k1':iter M45.s1 { l:=ofK N 14,n:=((ofK N 14).length:Int),i:=0,xs:=QH,Q0:=N,Q1:=A,Q4:=[],Q3:=C,Q6:=0,Q5:=N.length,Q9:=N.length,a:=outsV C QH,b_lo:=0,KW:=0,oxs:=[] }=_:=k1;unfold M45.m;simp only[k0',bindO,m36 h,k1',m88 (l:=outsV C QH) (by simp[outsV];omega),m88 (l:=nexts good N QH) (by simp[nexts];omega)]
def bfs(l QH buf:List Int)(j:Nat):List Int:=((l.take j).map (ky QH))++buf.drop j
def m15_1{QH buf:List Int}{l:List Int}(hl:QH.length=N.length)(hp:l.length<=16)(hr:∀a∈l,In N.length a)(hb:buf.length=16){o inn st:List Int}{n i k kind mem bit:Int}{inn2:List Int}:
  iter M15.s1 ⟨0,0,16,o,n,i,k,l,(l.length:Int),0,N,A,[],C,inn,st,QH,N,A,[],C,0,N.length,N.length,buf,kind,inn2,mem,bit⟩=some ⟨0,l.length,16,o,n,i,k,N,A,[],C,inn,st,QH,N,A,[],C,0,N.length,N.length,bfs l QH buf l.length,kind,inn2,mem,bit⟩:=by
 have key:=iter_count (step:=M15.s1) (λj=>⟨0,j,16,o,n,i,k,l,(l.length:Int),(j:Int),N,A,[],C,inn,st,QH,N,A,[],C,0,N.length,N.length,bfs l QH buf j,kind,inn2,mem,bit⟩) (y:=⟨0,l.length,16,o,n,i,k,N,A,[],C,inn,st,QH,N,A,[],C,0,N.length,N.length,bfs l QH buf l.length,kind,inn2,mem,bit⟩) l.length (λj hj=>by
  have c1:=ilt (a:=(j:Int)) (b:=(l.length:Int)) (by omega);have ha:=hr _ (A9 hj);have hlt:l[j].toNat<QH.length:=(by obtain⟨q1,q2⟩:=ha;omega);have hlen:(bfs l QH buf j).length=16:=(by simp[bfs];omega);have e:List.take j (bfs l QH buf j)++[QH[l[j].toNat]?.getD 0]++List.drop (j+1) (bfs l QH buf j)=bfs l QH buf (j+1):=by
   unfold bfs;have hj':((l.take j).map (ky QH)).length=j:=(by simp;omega);rw[List.take_left' hj',<-map_snoc hj];rw[show(List.map (ky QH) (List.take j l)++List.drop j buf).drop (j+1)=buf.drop (j+1) by
    rw[Bz,hj',Be (by omega),Bf,CA];congr 1;omega]
   rfl
  unfold M15.s1;simp only[c1,inR_nat hj,A6,getD_at hj,inR_int ha,AF,dlt hlt,leB_of (show j+1<=16 by omega),hlen,leB_of (A5 16),AH,suc (i:=j) (by omega),e]) (by
  have c1:=inlt (a:=(l.length:Int)) (b:=(l.length:Int)) (by omega);unfold M15.s1;simp only[c1,A7])
 have e0:bfs l QH buf 0=buf:=by simp[bfs]
 rw[e0]at key;exact key
def bfs_take{l QH buf:List Int}:List.take l.length (bfs l QH buf l.length)=l.map (ky QH):=by unfold bfs;rw[List.take_left' (by simp),Aa]
def rds_good{QH:List Int}{i:Int}:rds good N QH i=(pn N i.toNat).map (ky QH):=by unfold rds;exact BW (by simp) λk h1 h2=>by simp[good]
def set_same{l:List Int}{i:Int}:l.set i.toNat (ky l i)=l:=by
 refine BW (by simp) λk h1 h2=> ?_;rw[BV];split
 ·rename_i e;unfold ky;subst e;rw[A4 h2];rfl
 ·rfl
def stp_good{QH:List Int}{i:Int}:stp good N QH i=nxt good N QH i:=set_same
def Ord.rng{o:List Int}(h:Ord N o){i:Nat}(hi:i<o.length):In N.length o[i]:=nums_mem.1 (h.p.mem_iff.1 (A9 hi))
def Ord.len{o:List Int}(h:Ord N o):o.length=N.length:=by rw[h.p.length_eq,nums_len]
def m15_0(h:Ck N A C){o:List Int}(ho:Ord N o){b inn st:List Int}(hb:b.length=N.length)(hv:AllV b):
  iter M15.s0 ⟨0,0,16,o,(o.length:Int),0,N,A,[],C,inn,st,b,N,A,[],C,0,N.length,N.length,List.replicate 16 0⟩=some ⟨sim good N o b,N,A,[],C,0,N.length,N.length⟩:=by
 have hN:=h.few;have hlo:=ho.len;obtain⟨y,h1,h2⟩:=iter_inv (step:=M15.s0) (λx=>∃(i len:Nat) (buf:List Int),x=(⟨0,len,16,o,(o.length:Int),(i:Int),N,A,[],C,inn,st,sim good N (o.take i) b,N,A,[],C,0,N.length,N.length,buf⟩:M15.p0X)/\i<=o.length/\buf.length=16) (λx=>o.length - x.i.toNat)
  (λy=>y=(⟨sim good N o b,N,A,[],C,0,N.length,N.length⟩:M15.q0X)) (by
   rintro x ⟨i,len,buf,rfl,hi,hbl⟩;unfold M15.s0;by_cases hlt:i<o.length
   ·have c1:=ilt (a:=(i:Int)) (b:=(o.length:Int)) (by omega);have hr:=ho.rng hlt;have hk:=h.kind hr;have hp:=h.pins hr;have hs:=sim_snoc (N:=N) (F:=good) (b:=b) hlt;have hsl:(sim good N (o.take i) b).length=N.length:=(by rw[sim_len,hb]);have hsv:AllV (sim good N (o.take i) b):=sim_V h good_ok (λa ha=>by
     obtain⟨k,hk,e⟩:=BB (Ci ha);rw[<-e];exact ho.rng hk) hv
    have e4:isC (N[o[i].toNat]?.getD (0,[],0,0)).1=cm N o[i].toNat:=rfl;have e5:(N[o[i].toNat]?.getD (0,[],0,0)).2.1=pn N o[i].toNat:=rfl;have e6:(N[o[i].toNat]?.getD (0,[],0,0)).1=kd N o[i]:=rfl;simp only[c1,inR_nat hlt,A6,getD_at hlt,inR_int hr,m43,bindO,e4,suc (i:=i) (by omega)]
    cases hc:cm N o[i].toNat with
    |false=>have hs':sim good N (o.take (i+1)) b=sim good N (o.take i) b:=(by rw[hs,stp_good];unfold nxt;rw[hc];rfl);simp only[Bc,A6];exact⟨_,rfl,⟨i+1,len,buf,by rw[hs'],hlt,hbl⟩,by simp;omega⟩
    |true=>have c2:decide (0<=((16:Nat):Int))=true:=rfl;have hm:=m15_1 (N:=N) (A:=A) (C:=C) (QH:=sim good N (o.take i) b) (buf:=buf) (l:=pn N o[i].toNat) hsl hp.1 hp.2 hbl (o:=o) (inn:=inn) (st:=st) (n:=(o.length:Int)) (i:=(i:Int)) (k:=o[i]) (kind:=kd N o[i]) (inn2:=pn N o[i].toNat) (mem:=(N[o[i].toNat]?.getD (0,[],0,0)).2.2.1) (bit:=(N[o[i].toNat]?.getD (0,[],0,0)).2.2.2);have hbl2:(bfs (pn N o[i].toNat) (sim good N (o.take i) b) buf (pn N o[i].toNat).length).length=16:=(by have:=hp.1;simp[bfs];omega);have hev:=(ev_ok (k:=kd N o[i]) (l:=rds good N (sim good N (o.take i) b) o[i]) hk.1 (by omega) (by rw[rds_len];have:=hp.1;omega) (rds_V good_ok hsv)).1;rw[rds_good]at hev;have hlt2:o[i].toNat<(sim good N (o.take i) b).length:=(by rw[hsl];obtain⟨q1,q2⟩:=hr;omega);have hs':(sim good N (o.take i) b).set o[i].toNat (ev (kd N o[i]) (List.map (ky (sim good N (o.take i) b)) (pn N o[i].toNat)))=sim good N (o.take (i+1)) b:=(by rw[hs,stp_good];unfold nxt;rw[AC hc,rds_good]);simp only[Cb,A7,c2,A6,e5,e6,hm,AF,hbl2,leB_of hp.1,AH,AW,bfs_take,hev,inR_int hr,dlt hlt2,hs',suc (i:=i) (by omega)];exact⟨_,rfl,⟨i+1,(pn N o[i].toNat).length,_,rfl,hlt,hbl2⟩,by simp;omega⟩
   ·have c1:=inlt (a:=(i:Int)) (b:=(o.length:Int)) (by omega);have hi':i=o.length:=(by omega);subst hi';rw[Aa];simp only[c1,A7];exact⟨_,rfl,rfl⟩) ⟨0,0,16,o,(o.length:Int),((0:Nat):Int),N,A,[],C,inn,st,b,N,A,[],C,0,N.length,N.length,List.replicate 16 0⟩ ⟨0,0,List.replicate 16 0,rfl,Af _,by simp⟩
 rw[h2]at h1;exact h1
def m15(h:Ck N A C)(ht:Topo N):∃o,Ord N o/\M40.m ⟨N,A,[],C⟩=some (o,0)/\∀{inn st:List Int},Pat N inn st->M15.m ⟨N,A,[],C,inn,st⟩=some (outsV C (sim good N o (base N inn st)),nexts good N (sim good N o (base N inn st)),sim good N o (base N inn st),0):=by
 obtain⟨o,h1,ho⟩:=m40 h ht;refine⟨o,ho,h1,λ{inn st} hp=> ?_⟩;have hN:=h.few;have hbV:=base_V (N:=N) hp.vi hp.vs;have hbl:=base_len (N:=N) (inn:=inn) (st:=st);have hlo:=ho.len;have h0:=m15_0 h ho (inn:=inn) (st:=st) hbl hbV;have hsl:(sim good N o (base N inn st)).length=N.length:=by rw[sim_len,hbl]
 have hsv:AllV (sim good N o (base N inn st)):=sim_V h good_ok (λa ha=>by
  obtain⟨k,hk,e⟩:=BB ha;rw[<-e];exact ho.rng hk) hbV
 unfold M15.m;have c1:decide (0<=(N.length:Int))=true:=AB (by omega);have c2:decide ((N.length:Int)<=(N.length:Int))=true:=AB (by omega);have c3:decide ((N.length:Int)*1<=281474976710656)=true:=AB (by omega);have c4:decide ((N.length:Int)<=9223372036854775807)=true:=AB (by omega);simp only[h1,bindO,beq_self_eq_true,A6,m41 h hp,BE,A7,c1,c2,c3,c4,AH,AA,m42 h hp,h0,m45 h hsl hsv,AF,hsl,leB_of (A5 N.length),AW];rw[AN (by omega)]
end
end Co
end
namespace M129a
structure gX where(n:Int)(Q0:TN)(Q1:TS)(Q4:TM)(Q3:TI)(Q6 Q5 Q9:Nat)(ln lp QF QG QP value other:Int)(xs:TI)
def g:Sg gX:=⟨[cP,cI],[.st [aN,aS,aM,aI,.slc 4 0 1,.clo 151 [⟨1,0,0⟩,⟨2,0,0⟩],.fn 124] 1 0,oP,.st [.clo 128 [⟨3,0,0⟩]] 1 0,oG,oB],λa b=>⟨a.2.1,b.1.1,b.1.2.1,b.1.2.2.1,b.1.2.2.2.1,b.1.2.2.2.2.1.1,b.1.2.2.2.2.1.2.1,b.1.2.2.2.2.1.2.2,b.2.1.1,b.2.1.2.1,b.2.2.2.1.1,b.2.2.2.1.2.1,b.2.2.2.1.2.2.1,b.2.2.2.1.2.2.2.1,b.2.2.2.1.2.2.2.2.1,b.2.2.2.2.1⟩,λx=>((),(x.n,())),λx=>((x.Q0,(x.Q1,(x.Q4,(x.Q3,((x.Q6,x.Q5,x.Q9),((),((),()))))))),((x.ln,(x.lp,())),(((),()),((x.QF,(x.QG,(x.QP,(x.value,(x.other,()))))),(x.xs,())))))⟩
abbrev fY:=Int×TN×TS×TM×TI×Nat×Nat×Nat×Int×Int×Int×Int×Int×Int×Int×TI
def f:Ft fY:=⟨none,cB,[.st [aN,aS,aM,aI,.slc 4 0 1,.clo 151 [⟨1,0,0⟩,⟨2,0,0⟩],.fn 124] 1 0,oP,.st [.clo 128 [⟨3,0,0⟩]] 1 0,oG,oB],λa b=>(a,b.1.1,b.1.2.1,b.1.2.2.1,b.1.2.2.2.1,b.1.2.2.2.2.1.1,b.1.2.2.2.2.1.2.1,b.1.2.2.2.2.1.2.2,b.2.1.1,b.2.1.2.1,b.2.2.2.1.1,b.2.2.2.1.2.1,b.2.2.2.1.2.2.1,b.2.2.2.1.2.2.2.1,b.2.2.2.1.2.2.2.2.1,b.2.2.2.2.1),λy=>y.1,λy=>((y.2.1,(y.2.2.1,(y.2.2.2.1,(y.2.2.2.2.1,((y.2.2.2.2.2.1,y.2.2.2.2.2.2.1,y.2.2.2.2.2.2.2.1),((),((),()))))))),((y.2.2.2.2.2.2.2.2.1,(y.2.2.2.2.2.2.2.2.2.1,())),(((),()),((y.2.2.2.2.2.2.2.2.2.2.1,(y.2.2.2.2.2.2.2.2.2.2.2.1,(y.2.2.2.2.2.2.2.2.2.2.2.2.1,(y.2.2.2.2.2.2.2.2.2.2.2.2.2.1,(y.2.2.2.2.2.2.2.2.2.2.2.2.2.2.1,()))))),(y.2.2.2.2.2.2.2.2.2.2.2.2.2.2.2,())))))⟩
def m(x:gX):Option fY:=bif inR x.n x.Q0.length then bindO (M130a.m ⟨x.n,x.Q0,x.Q1,x.Q4,x.Q3,x.Q6,x.Q5,x.Q9,x.ln,x.lp,x.QF,x.QG,x.QP,x.value,x.other,x.xs⟩) λy=>bindO (M44.m ⟨(x.Q0[x.n.toNat]?.getD (0,[],0,0)).1,y.1⟩) λy=>some (y,x.Q0,x.Q1,x.Q4,x.Q3,x.Q6,x.Q5,x.Q9,x.ln,x.lp,x.QF,x.QG,x.QP,x.value,x.other,x.xs) else none
def known:QQ prog 129 g f m:=
 kc0 [⟨130,M130a.con,M130a.con_ok⟩,ck M44.known] s129
def hh{x:gX}{y:fY}(h:m x=some y):f.H y=g.H x:=by
 unfold m at h;rcases cond_some h with ⟨_,h⟩|⟨_,h⟩
 ·obtain⟨_,_,h⟩:=Qf h;obtain⟨_,_,h⟩:=Qf h;cases h;rfl
 ·cases h
def con:Con:=YZ g [.arg 0 0,.cell 0 105,.cell 0 205,.cell 2 0,.cell 0 4] f m default
def con_ok:J4 prog 129 con:=Jh known (λ_=>rfl) (λ_ _ h=>by exact hh h)
end M129a
namespace M129b
structure gX where(n:Int)(Q0:TN)(Q1:TS)(Q4:TM)(Q3:TI)(Q6 Q5 Q9:Nat)(ln lp QF QG QP value other:Int)(xs:TI)
def g:Sg gX:=⟨[cP,cI],[.st [aN,aS,aM,aI,.slc 4 0 1,.fn 150,.clo 152 [⟨1,0,0⟩,⟨2,0,0⟩]] 1 0,oP,.st [.clo 128 [⟨3,0,0⟩]] 1 0,oG,oB],λa b=>⟨a.2.1,b.1.1,b.1.2.1,b.1.2.2.1,b.1.2.2.2.1,b.1.2.2.2.2.1.1,b.1.2.2.2.2.1.2.1,b.1.2.2.2.2.1.2.2,b.2.1.1,b.2.1.2.1,b.2.2.2.1.1,b.2.2.2.1.2.1,b.2.2.2.1.2.2.1,b.2.2.2.1.2.2.2.1,b.2.2.2.1.2.2.2.2.1,b.2.2.2.2.1⟩,λx=>((),(x.n,())),λx=>((x.Q0,(x.Q1,(x.Q4,(x.Q3,((x.Q6,x.Q5,x.Q9),((),((),()))))))),((x.ln,(x.lp,())),(((),()),((x.QF,(x.QG,(x.QP,(x.value,(x.other,()))))),(x.xs,())))))⟩
abbrev fY:=Int×TN×TS×TM×TI×Nat×Nat×Nat×Int×Int×Int×Int×Int×Int×Int×TI
def f:Ft fY:=⟨none,cB,[.st [aN,aS,aM,aI,.slc 4 0 1,.fn 150,.clo 152 [⟨1,0,0⟩,⟨2,0,0⟩]] 1 0,oP,.st [.clo 128 [⟨3,0,0⟩]] 1 0,oG,oB],λa b=>(a,b.1.1,b.1.2.1,b.1.2.2.1,b.1.2.2.2.1,b.1.2.2.2.2.1.1,b.1.2.2.2.2.1.2.1,b.1.2.2.2.2.1.2.2,b.2.1.1,b.2.1.2.1,b.2.2.2.1.1,b.2.2.2.1.2.1,b.2.2.2.1.2.2.1,b.2.2.2.1.2.2.2.1,b.2.2.2.1.2.2.2.2.1,b.2.2.2.2.1),λy=>y.1,λy=>((y.2.1,(y.2.2.1,(y.2.2.2.1,(y.2.2.2.2.1,((y.2.2.2.2.2.1,y.2.2.2.2.2.2.1,y.2.2.2.2.2.2.2.1),((),((),()))))))),((y.2.2.2.2.2.2.2.2.1,(y.2.2.2.2.2.2.2.2.2.1,())),(((),()),((y.2.2.2.2.2.2.2.2.2.2.1,(y.2.2.2.2.2.2.2.2.2.2.2.1,(y.2.2.2.2.2.2.2.2.2.2.2.2.1,(y.2.2.2.2.2.2.2.2.2.2.2.2.2.1,(y.2.2.2.2.2.2.2.2.2.2.2.2.2.2.1,()))))),(y.2.2.2.2.2.2.2.2.2.2.2.2.2.2.2,())))))⟩
def m(x:gX):Option fY:=bif inR x.n x.Q0.length then bindO (M130b.m ⟨x.n,x.Q0,x.Q1,x.Q4,x.Q3,x.Q6,x.Q5,x.Q9,x.ln,x.lp,x.QF,x.QG,x.QP,x.value,x.other,x.xs⟩) λy=>bindO (M44.m ⟨(x.Q0[x.n.toNat]?.getD (0,[],0,0)).1,y.1⟩) λy=>some (y,x.Q0,x.Q1,x.Q4,x.Q3,x.Q6,x.Q5,x.Q9,x.ln,x.lp,x.QF,x.QG,x.QP,x.value,x.other,x.xs) else none
def known:QQ prog 129 g f m:=
 kc0 [⟨130,M130b.con,M130b.con_ok⟩,ck M44.known] s129
def hh{x:gX}{y:fY}(h:m x=some y):f.H y=g.H x:=by
 unfold m at h;rcases cond_some h with ⟨_,h⟩|⟨_,h⟩
 ·obtain⟨_,_,h⟩:=Qf h;obtain⟨_,_,h⟩:=Qf h;cases h;rfl
 ·cases h
def con:Con:=YZ g [.arg 0 0,.cell 0 106,.cell 0 206,.cell 2 0,.cell 0 4] f m default
def con_ok:J4 prog 129 con:=Jh known (λ_=>rfl) (λ_ _ h=>by exact hh h)
end M129b
namespace M90a
structure gX where(inn state:TI)(Q0:TN)(Q1:TS)(Q4:TM)(Q3:TI)(ln lp QF QG QP value other:Int)
def g:Sg gX:=⟨[cP,.agg [aB,aB]],[.st [aN,aS,aM,aI,.nils,.clo 151 [⟨1,0,0⟩,⟨2,0,0⟩],.fn 124] 1 0,oP,.st [.clo 128 [⟨3,0,0⟩]] 1 0,oG],λa b=>⟨a.2.1.1,a.2.1.2.1,b.1.1,b.1.2.1,b.1.2.2.1,b.1.2.2.2.1,b.2.1.1,b.2.1.2.1,b.2.2.2.1.1,b.2.2.2.1.2.1,b.2.2.2.1.2.2.1,b.2.2.2.1.2.2.2.1,b.2.2.2.1.2.2.2.2.1⟩,λx=>((),((x.inn,(x.state,())),())),λx=>((x.Q0,(x.Q1,(x.Q4,(x.Q3,((),((),((),()))))))),((x.ln,(x.lp,())),(((),()),((x.QF,(x.QG,(x.QP,(x.value,(x.other,()))))),()))))⟩
abbrev fY:=TI×TI×TN×TS×TM×TI×Nat×Nat×Nat×Int×Int×Int×Int×Int×Int×Int×TI
def f:Ft fY:=⟨some [0,1,2,3,6,4,5,7,8,9,10,11],.agg [aB,aB],[.st [aN,aS,aM,aI,.slc 4 0 1,.clo 151 [⟨1,0,0⟩,⟨2,0,0⟩],.fn 124] 1 0,oP,.st [.clo 128 [⟨3,0,0⟩]] 1 0,oG,oB],λa b=>(a.1,a.2.1,b.1.1,b.1.2.1,b.1.2.2.1,b.1.2.2.2.1,b.1.2.2.2.2.1.1,b.1.2.2.2.2.1.2.1,b.1.2.2.2.2.1.2.2,b.2.1.1,b.2.1.2.1,b.2.2.2.1.1,b.2.2.2.1.2.1,b.2.2.2.1.2.2.1,b.2.2.2.1.2.2.2.1,b.2.2.2.1.2.2.2.2.1,b.2.2.2.2.1),λy=>(y.1,(y.2.1,())),λy=>((y.2.2.1,(y.2.2.2.1,(y.2.2.2.2.1,(y.2.2.2.2.2.1,((y.2.2.2.2.2.2.1,y.2.2.2.2.2.2.2.1,y.2.2.2.2.2.2.2.2.1),((),((),()))))))),((y.2.2.2.2.2.2.2.2.2.1,(y.2.2.2.2.2.2.2.2.2.2.1,())),(((),()),((y.2.2.2.2.2.2.2.2.2.2.2.1,(y.2.2.2.2.2.2.2.2.2.2.2.2.1,(y.2.2.2.2.2.2.2.2.2.2.2.2.2.1,(y.2.2.2.2.2.2.2.2.2.2.2.2.2.2.1,(y.2.2.2.2.2.2.2.2.2.2.2.2.2.2.2.1,()))))),(y.2.2.2.2.2.2.2.2.2.2.2.2.2.2.2.2,())))))⟩
def cl:List CK:=[ck M36.known,ck M75.known,ck M40.known,⟨129,M129a.con,M129a.con_ok⟩,⟨130,M130a.con,M130a.con_ok⟩,⟨151,M151.con,M151.con_ok⟩,ck M88.known]
structure p4X where(l:TI)(n i:Int)(Q0:TN)(Q1:TS)(Q4:TM)(Q3:TI)(Q6 Q5 Q9:Nat)(ln lp QF QG QP value other:Int)(inn state xs oa:TI)(Yp XU:Nat)(oxs:TI)
def p4:Pt p4X:=⟨[.cell 7 1 (.int .u8)],⟨[(0,cP),(4,.c (.ptr 5 0)),(16,.c (.ptr 7 0)),(162,cA),(163,cI),(164,cI)],[.st [aN,aS,aM,aI,.slc 6 0 1,.clo 151 [⟨1,0,0⟩,⟨2,0,0⟩],.fn 124] 1 0,oP,.st [.clo 128 [⟨3,0,0⟩]] 1 0,oG,oF,.st [jk,jk] 1 0,oB,.st [aB,.sl 8 0 1] 1 0,oB]⟩,λ((_,_,_,a,b,c,_),(d,e,f,g,(h,i,j),_),(k,l,_),_,(m,n,o,p,q,_),(r,s,_),_,t,(u,(w,x),_),y,_)=>⟨a,b,c,d,e,f,g,h,i,j,k,l,m,n,o,p,q,r,s,t,u,w,x,y⟩,λx=>(((),((),((),(x.l,(x.n,(x.i,())))))),((x.Q0,(x.Q1,(x.Q4,(x.Q3,((x.Q6,x.Q5,x.Q9),((),((),()))))))),((x.ln,(x.lp,())),(((),()),((x.QF,(x.QG,(x.QP,(x.value,(x.other,()))))),((x.inn,(x.state,())),(((),((),())),(x.xs,((x.oa,((x.Yp,x.XU),())),(x.oxs,()))))))))))⟩
structure q4X where(Q0:TN)(Q1:TS)(Q4:TM)(Q3:TI)(Q6 Q5 Q9:Nat)(ln lp QF QG QP value other:Int)(inn state xs oa ob:TI)
def q4:Pt q4X:=⟨[],⟨[(0,cP),(4,.c (.ptr 5 0)),(16,.c (.ptr 7 0))],[.st [aN,aS,aM,aI,.slc 6 0 1,.clo 151 [⟨1,0,0⟩,⟨2,0,0⟩],.fn 124] 1 0,oP,.st [.clo 128 [⟨3,0,0⟩]] 1 0,oG,oF,.st [jk,jk] 1 0,oB,oF]⟩,λ(_,(a,b,c,d,(e,f,g),_),(h,i,_),_,(j,k,l,m,n,_),(o,p,_),_,q,(r,s,_),_)=>⟨a,b,c,d,e,f,g,h,i,j,k,l,m,n,o,p,q,r,s⟩,λx=>(((),((),((),()))),((x.Q0,(x.Q1,(x.Q4,(x.Q3,((x.Q6,x.Q5,x.Q9),((),((),()))))))),((x.ln,(x.lp,())),(((),()),((x.QF,(x.QG,(x.QP,(x.value,(x.other,()))))),((x.inn,(x.state,())),(((),((),())),(x.xs,((x.oa,(x.ob,())),())))))))))⟩
def s4(x:p4X):Option (p4X⊕q4X):=bif decide (x.i<x.n) then bif inR x.i x.l.length then bindO (M130a.m ⟨x.l[x.i.toNat]?.getD 0,x.Q0,x.Q1,x.Q4,x.Q3,x.Q6,x.Q5,x.Q9,x.ln,x.lp,x.QF,x.QG,x.QP,x.value,x.other,x.xs⟩) λy=>bif inR 0 y.1.length then bif eqN x.Yp 0&&eqN x.oxs.length x.XU&&J1 (x.XU+1) 1 then some (inl ⟨x.l,x.n,i64.wrap (x.i+1),x.Q0,x.Q1,x.Q4,x.Q3,x.Q6,x.Q5,x.Q9,x.ln,x.lp,x.QF,x.QG,x.QP,x.value,x.other,x.inn,x.state,x.xs,x.oa,0,x.XU+1,x.oxs++[bif y.1[0]?.getD 0==3 then 2 else y.1[0]?.getD 0]⟩) else none else none else none else bif leB (x.Yp+x.XU) x.oxs.length&&true&&true then some (inr ⟨x.Q0,x.Q1,x.Q4,x.Q3,x.Q6,x.Q5,x.Q9,x.ln,x.lp,x.QF,x.QG,x.QP,x.value,x.other,x.inn,x.state,x.xs,x.oa,List.take x.XU (List.drop x.Yp x.oxs)⟩) else none
def l4:QT:=Qa 4 p4 (.exit 8) q4 s4
def l4_ok  :QO prog 189 none 4 (C90.QR 4) l4:=lc cl 5 (λ_=>none) QX.nil
structure p3X where(sts l:TI)(n i:Int)(Q0:TN)(Q1:TS)(Q4:TM)(Q3:TI)(Q6 Q5 Q9:Nat)(ln lp QF QG QP value other:Int)(inn state xs:TI)(Yq XV:Nat)(oxs:TI)
def p3:Pt p3X:=⟨[.cell 7 0 (.int .u8)],⟨[(0,cP),(4,.c (.ptr 5 0)),(5,cA),(16,.c (.ptr 7 0)),(143,cA),(144,cI),(145,cI)],[.st [aN,aS,aM,aI,.slc 6 0 1,.clo 151 [⟨1,0,0⟩,⟨2,0,0⟩],.fn 124] 1 0,oP,.st [.clo 128 [⟨3,0,0⟩]] 1 0,oG,oF,.st [jk,jk] 1 0,oB,.st [.sl 8 0 1,.nils] 1 0,oB]⟩,λ((_,_,a,_,b,c,d,_),(e,f,g,h,(i,j,k),_),(l,m,_),_,(n,o,p,q,r,_),(s,t,_),_,u,((w,x),_),y,_)=>⟨a,b,c,d,e,f,g,h,i,j,k,l,m,n,o,p,q,r,s,t,u,w,x,y⟩,λx=>(((),((),(x.sts,((),(x.l,(x.n,(x.i,()))))))),((x.Q0,(x.Q1,(x.Q4,(x.Q3,((x.Q6,x.Q5,x.Q9),((),((),()))))))),((x.ln,(x.lp,())),(((),()),((x.QF,(x.QG,(x.QP,(x.value,(x.other,()))))),((x.inn,(x.state,())),(((),((),())),(x.xs,(((x.Yq,x.XV),((),())),(x.oxs,()))))))))))⟩
structure q3X where(sts:TI)(Q0:TN)(Q1:TS)(Q4:TM)(Q3:TI)(Q6 Q5 Q9:Nat)(ln lp QF QG QP value other:Int)(inn state xs oa:TI)
def q3:Pt q3X:=⟨[],⟨[(0,cP),(4,.c (.ptr 5 0)),(5,cA),(16,.c (.ptr 7 0))],[.st [aN,aS,aM,aI,.slc 6 0 1,.clo 151 [⟨1,0,0⟩,⟨2,0,0⟩],.fn 124] 1 0,oP,.st [.clo 128 [⟨3,0,0⟩]] 1 0,oG,oF,.st [jk,jk] 1 0,oB,.st [aB,.nils] 1 0]⟩,λ((_,_,a,_),(b,c,d,e,(f,g,h),_),(i,j,_),_,(k,l,m,n,o,_),(p,q,_),_,r,(s,_),_)=>⟨a,b,c,d,e,f,g,h,i,j,k,l,m,n,o,p,q,r,s⟩,λx=>(((),((),(x.sts,((),())))),((x.Q0,(x.Q1,(x.Q4,(x.Q3,((x.Q6,x.Q5,x.Q9),((),((),()))))))),((x.ln,(x.lp,())),(((),()),((x.QF,(x.QG,(x.QP,(x.value,(x.other,()))))),((x.inn,(x.state,())),(((),((),())),(x.xs,((x.oa,((),())),())))))))))⟩
def s3(x:p3X):Option (p3X⊕q3X):=bif decide (x.i<x.n) then bif inR x.i x.l.length then bif inR (x.l[x.i.toNat]?.getD 0) x.Q5 then bif decide (x.Q6+Int.toNat (x.l[x.i.toNat]?.getD 0)<x.xs.length) then bif eqN x.Yq 0&&eqN x.oxs.length x.XV&&J1 (x.XV+1) 1 then some (inl ⟨x.sts,x.l,x.n,i64.wrap (x.i+1),x.Q0,x.Q1,x.Q4,x.Q3,x.Q6,x.Q5,x.Q9,x.ln,x.lp,x.QF,x.QG,x.QP,x.value,x.other,x.inn,x.state,x.xs,0,x.XV+1,x.oxs++[x.xs[x.Q6+Int.toNat (x.l[x.i.toNat]?.getD 0)]?.getD 0]⟩) else none else none else none else none else bif leB (x.Yq+x.XV) x.oxs.length&&true&&true then some (inr ⟨x.sts,x.Q0,x.Q1,x.Q4,x.Q3,x.Q6,x.Q5,x.Q9,x.ln,x.lp,x.QF,x.QG,x.QP,x.value,x.other,x.inn,x.state,x.xs,List.take x.XV (List.drop x.Yq x.oxs)⟩) else none
def l3:QT:=Qa 4 p3 (.exit 6) q3 s3
def l3_ok  :QO prog 189 none 4 (C90.QR 3) l3:=lc cl 4 (J2 [(4,l4)]) QX.nil
structure p2X where(sts l:TI)(n i:Int)(Q0:TN)(Q1:TS)(Q4:TM)(Q3:TI)(Q6 Q5 Q9:Nat)(ln lp QF QG QP value other:Int)(inn state xs:TI)
def p2:Pt p2X:=⟨[],⟨[(0,cP),(3,.c (.ptr 4 0)),(4,.c (.ptr 5 0)),(5,cA),(12,.c (.clo 2000129 [⟨0,0,0⟩])),(89,cA),(90,cI),(91,cI)],[.st [aN,aS,aM,aI,.slc 6 0 1,.clo 151 [⟨1,0,0⟩,⟨2,0,0⟩],.fn 124] 1 0,oP,.st [.clo 128 [⟨3,0,0⟩]] 1 0,oG,oF,.st [jk,jk] 1 0,oB]⟩,λ((_,_,_,a,_,b,c,d,_),(e,f,g,h,(i,j,k),_),(l,m,_),_,(n,o,p,q,r,_),(s,t,_),_,u,_)=>⟨a,b,c,d,e,f,g,h,i,j,k,l,m,n,o,p,q,r,s,t,u⟩,λx=>(((),((),((),(x.sts,((),(x.l,(x.n,(x.i,())))))))),((x.Q0,(x.Q1,(x.Q4,(x.Q3,((x.Q6,x.Q5,x.Q9),((),((),()))))))),((x.ln,(x.lp,())),(((),()),((x.QF,(x.QG,(x.QP,(x.value,(x.other,()))))),((x.inn,(x.state,())),(((),((),())),(x.xs,()))))))))⟩
structure q2X where(sts:TI)(Q0:TN)(Q1:TS)(Q4:TM)(Q3:TI)(Q6 Q5 Q9:Nat)(ln lp QF QG QP value other:Int)(inn state xs:TI)
def q2:Pt q2X:=⟨[],⟨[(0,cP),(4,.c (.ptr 5 0)),(5,cA)],[.st [aN,aS,aM,aI,.slc 6 0 1,.clo 151 [⟨1,0,0⟩,⟨2,0,0⟩],.fn 124] 1 0,oP,.st [.clo 128 [⟨3,0,0⟩]] 1 0,oG,oF,.st [jk,jk] 1 0,oB]⟩,λ((_,_,a,_),(b,c,d,e,(f,g,h),_),(i,j,_),_,(k,l,m,n,o,_),(p,q,_),_,r,_)=>⟨a,b,c,d,e,f,g,h,i,j,k,l,m,n,o,p,q,r⟩,λx=>(((),((),(x.sts,()))),((x.Q0,(x.Q1,(x.Q4,(x.Q3,((x.Q6,x.Q5,x.Q9),((),((),()))))))),((x.ln,(x.lp,())),(((),()),((x.QF,(x.QG,(x.QP,(x.value,(x.other,()))))),((x.inn,(x.state,())),(((),((),())),(x.xs,()))))))))⟩
def s2(x:p2X):Option (p2X⊕q2X):=bif decide (x.i<x.n) then bif inR x.i x.l.length then bif inR (x.l[x.i.toNat]?.getD 0) x.Q0.length then bif bif (x.Q0[Int.toNat (x.l[x.i.toNat]?.getD 0)]?.getD (0,[],0,0)).1 !=0 then (x.Q0[Int.toNat (x.l[x.i.toNat]?.getD 0)]?.getD (0,[],0,0)).1 !=14 else false then bindO (M129a.m ⟨x.l[x.i.toNat]?.getD 0,x.Q0,x.Q1,x.Q4,x.Q3,x.Q6,x.Q5,x.Q9,x.ln,x.lp,x.QF,x.QG,x.QP,x.value,x.other,x.xs⟩) λy=>bif inR (x.l[x.i.toNat]?.getD 0) x.Q5 then bif decide (x.Q6+Int.toNat (x.l[x.i.toNat]?.getD 0)<x.xs.length) then bif inR (x.l[x.i.toNat]?.getD 0) x.Q5 then bif decide (x.Q6+Int.toNat (x.l[x.i.toNat]?.getD 0)<(x.xs.set (x.Q6+Int.toNat (x.l[x.i.toNat]?.getD 0)) y.1).length) then bindO (M151.m ⟨x.l[x.i.toNat]?.getD 0,(x.xs.set (x.Q6+Int.toNat (x.l[x.i.toNat]?.getD 0)) y.1)[x.Q6+Int.toNat (x.l[x.i.toNat]?.getD 0)]?.getD 0,x.ln,x.lp,x.QF,x.QG,x.QP,x.value,x.other⟩) λy_1=>bif inR (x.l[x.i.toNat]?.getD 0) x.Q5 then bif decide (x.Q6+Int.toNat (x.l[x.i.toNat]?.getD 0)<(x.xs.set (x.Q6+Int.toNat (x.l[x.i.toNat]?.getD 0)) y.1).length) then some (inl ⟨x.sts,x.l,x.n,i64.wrap (x.i+1),x.Q0,x.Q1,x.Q4,x.Q3,x.Q6,x.Q5,x.Q9,x.ln,x.lp,x.QF,x.QG,x.QP,x.value,x.other,x.inn,x.state,(x.xs.set (x.Q6+Int.toNat (x.l[x.i.toNat]?.getD 0)) y.1).set (x.Q6+Int.toNat (x.l[x.i.toNat]?.getD 0)) y_1.1⟩) else none else none else none else none else none else none else bif inR (x.l[x.i.toNat]?.getD 0) x.Q5 then bif decide (x.Q6+Int.toNat (x.l[x.i.toNat]?.getD 0)<x.xs.length) then bindO (M151.m ⟨x.l[x.i.toNat]?.getD 0,x.xs[x.Q6+Int.toNat (x.l[x.i.toNat]?.getD 0)]?.getD 0,x.ln,x.lp,x.QF,x.QG,x.QP,x.value,x.other⟩) λy=>bif inR (x.l[x.i.toNat]?.getD 0) x.Q5 then bif decide (x.Q6+Int.toNat (x.l[x.i.toNat]?.getD 0)<x.xs.length) then some (inl ⟨x.sts,x.l,x.n,i64.wrap (x.i+1),x.Q0,x.Q1,x.Q4,x.Q3,x.Q6,x.Q5,x.Q9,x.ln,x.lp,x.QF,x.QG,x.QP,x.value,x.other,x.inn,x.state,x.xs.set (x.Q6+Int.toNat (x.l[x.i.toNat]?.getD 0)) y.1⟩) else none else none else none else none else none else none else some (inr ⟨x.sts,x.Q0,x.Q1,x.Q4,x.Q3,x.Q6,x.Q5,x.Q9,x.ln,x.lp,x.QF,x.QG,x.QP,x.value,x.other,x.inn,x.state,x.xs⟩)
def l2:QT:=Qa 4 p2 (.exit 4) q2 s2
def l2_ok  :QO prog 189 none 4 (C90.QR 2) l2:=lc cl 3 (J2 [(3,l3),(4,l4)]) QX.nil
structure p1X where(sts l:TI)(n i:Int)(Q0:TN)(Q1:TS)(Q4:TM)(Q3:TI)(Q6 Q5 Q9:Nat)(ln lp QF QG QP value other:Int)(inn state xs:TI)
def p1:Pt p1X:=⟨[],⟨[(0,cP),(3,.c (.ptr 4 0)),(4,.c (.ptr 5 0)),(5,cA),(60,cA),(61,cI),(62,cI)],[.st [aN,aS,aM,aI,.slc 6 0 1,.clo 151 [⟨1,0,0⟩,⟨2,0,0⟩],.fn 124] 1 0,oP,.st [.clo 128 [⟨3,0,0⟩]] 1 0,oG,oF,.st [jk,jk] 1 0,oB]⟩,λ((_,_,_,a,b,c,d,_),(e,f,g,h,(i,j,k),_),(l,m,_),_,(n,o,p,q,r,_),(s,t,_),_,u,_)=>⟨a,b,c,d,e,f,g,h,i,j,k,l,m,n,o,p,q,r,s,t,u⟩,λx=>(((),((),((),(x.sts,(x.l,(x.n,(x.i,()))))))),((x.Q0,(x.Q1,(x.Q4,(x.Q3,((x.Q6,x.Q5,x.Q9),((),((),()))))))),((x.ln,(x.lp,())),(((),()),((x.QF,(x.QG,(x.QP,(x.value,(x.other,()))))),((x.inn,(x.state,())),(((),((),())),(x.xs,()))))))))⟩
structure q1X where(sts:TI)(Q0:TN)(Q1:TS)(Q4:TM)(Q3:TI)(Q6 Q5 Q9:Nat)(ln lp QF QG QP value other:Int)(inn state xs:TI)
def q1:Pt q1X:=⟨[],⟨[(0,cP),(3,.c (.ptr 4 0)),(4,.c (.ptr 5 0)),(5,cA)],[.st [aN,aS,aM,aI,.slc 6 0 1,.clo 151 [⟨1,0,0⟩,⟨2,0,0⟩],.fn 124] 1 0,oP,.st [.clo 128 [⟨3,0,0⟩]] 1 0,oG,oF,.st [jk,jk] 1 0,oB]⟩,λ((_,_,_,a,_),(b,c,d,e,(f,g,h),_),(i,j,_),_,(k,l,m,n,o,_),(p,q,_),_,r,_)=>⟨a,b,c,d,e,f,g,h,i,j,k,l,m,n,o,p,q,r⟩,λx=>(((),((),((),(x.sts,())))),((x.Q0,(x.Q1,(x.Q4,(x.Q3,((x.Q6,x.Q5,x.Q9),((),((),()))))))),((x.ln,(x.lp,())),(((),()),((x.QF,(x.QG,(x.QP,(x.value,(x.other,()))))),((x.inn,(x.state,())),(((),((),())),(x.xs,()))))))))⟩
def s1(x:p1X):Option (p1X⊕q1X):=bif decide (x.i<x.n) then bif inR x.i x.l.length then bif inR x.i x.state.length then bif inR (x.l[x.i.toNat]?.getD 0) x.Q5 then bif decide (x.Q6+Int.toNat (x.l[x.i.toNat]?.getD 0)<x.xs.length) then some (inl ⟨x.sts,x.l,x.n,i64.wrap (x.i+1),x.Q0,x.Q1,x.Q4,x.Q3,x.Q6,x.Q5,x.Q9,x.ln,x.lp,x.QF,x.QG,x.QP,x.value,x.other,x.inn,x.state,x.xs.set (x.Q6+Int.toNat (x.l[x.i.toNat]?.getD 0)) (x.state[x.i.toNat]?.getD 0)⟩) else none else none else none else none else some (inr ⟨x.sts,x.Q0,x.Q1,x.Q4,x.Q3,x.Q6,x.Q5,x.Q9,x.ln,x.lp,x.QF,x.QG,x.QP,x.value,x.other,x.inn,x.state,x.xs⟩)
def l1:QT:=Qa 4 p1 (.exit 2) q1 s1
def l1_ok  :QO prog 189 none 4 (C90.QR 1) l1:=lc cl 2 (J2 [(2,l2),(3,l3),(4,l4)]) QX.nil
structure p0X where(sts l:TI)(n i:Int)(Q0:TN)(Q1:TS)(Q4:TM)(Q3:TI)(Q6 Q5 Q9:Nat)(ln lp QF QG QP value other:Int)(inn state xs:TI)
def p0:Pt p0X:=⟨[],⟨[(0,cP),(3,.c (.ptr 4 0)),(4,.c (.ptr 5 0)),(5,cA),(41,cA),(42,cI),(43,cI)],[.st [aN,aS,aM,aI,.slc 6 0 1,.clo 151 [⟨1,0,0⟩,⟨2,0,0⟩],.fn 124] 1 0,oP,.st [.clo 128 [⟨3,0,0⟩]] 1 0,oG,oF,.st [jk,jk] 1 0,oB]⟩,λ((_,_,_,a,b,c,d,_),(e,f,g,h,(i,j,k),_),(l,m,_),_,(n,o,p,q,r,_),(s,t,_),_,u,_)=>⟨a,b,c,d,e,f,g,h,i,j,k,l,m,n,o,p,q,r,s,t,u⟩,λx=>(((),((),((),(x.sts,(x.l,(x.n,(x.i,()))))))),((x.Q0,(x.Q1,(x.Q4,(x.Q3,((x.Q6,x.Q5,x.Q9),((),((),()))))))),((x.ln,(x.lp,())),(((),()),((x.QF,(x.QG,(x.QP,(x.value,(x.other,()))))),((x.inn,(x.state,())),(((),((),())),(x.xs,()))))))))⟩
structure q0X where(sts:TI)(Q0:TN)(Q1:TS)(Q4:TM)(Q3:TI)(Q6 Q5 Q9:Nat)(ln lp QF QG QP value other:Int)(inn state xs:TI)
def q0:Pt q0X:=⟨[],⟨[(0,cP),(3,.c (.ptr 4 0)),(4,.c (.ptr 5 0)),(5,cA)],[.st [aN,aS,aM,aI,.slc 6 0 1,.clo 151 [⟨1,0,0⟩,⟨2,0,0⟩],.fn 124] 1 0,oP,.st [.clo 128 [⟨3,0,0⟩]] 1 0,oG,oF,.st [jk,jk] 1 0,oB]⟩,λ((_,_,_,a,_),(b,c,d,e,(f,g,h),_),(i,j,_),_,(k,l,m,n,o,_),(p,q,_),_,r,_)=>⟨a,b,c,d,e,f,g,h,i,j,k,l,m,n,o,p,q,r⟩,λx=>(((),((),((),(x.sts,())))),((x.Q0,(x.Q1,(x.Q4,(x.Q3,((x.Q6,x.Q5,x.Q9),((),((),()))))))),((x.ln,(x.lp,())),(((),()),((x.QF,(x.QG,(x.QP,(x.value,(x.other,()))))),((x.inn,(x.state,())),(((),((),())),(x.xs,()))))))))⟩
def s0(x:p0X):Option (p0X⊕q0X):=bif decide (x.i<x.n) then bif inR x.i x.l.length then bif inR x.i x.inn.length then bif inR (x.l[x.i.toNat]?.getD 0) x.Q5 then bif decide (x.Q6+Int.toNat (x.l[x.i.toNat]?.getD 0)<x.xs.length) then some (inl ⟨x.sts,x.l,x.n,i64.wrap (x.i+1),x.Q0,x.Q1,x.Q4,x.Q3,x.Q6,x.Q5,x.Q9,x.ln,x.lp,x.QF,x.QG,x.QP,x.value,x.other,x.inn,x.state,x.xs.set (x.Q6+Int.toNat (x.l[x.i.toNat]?.getD 0)) (x.inn[x.i.toNat]?.getD 0)⟩) else none else none else none else none else some (inr ⟨x.sts,x.Q0,x.Q1,x.Q4,x.Q3,x.Q6,x.Q5,x.Q9,x.ln,x.lp,x.QF,x.QG,x.QP,x.value,x.other,x.inn,x.state,x.xs⟩)
def l0:QT:=Qa 4 p0 (.exit 0) q0 s0
def l0_ok  :QO prog 189 none 4 (C90.QR 0) l0:=lc cl 1 (J2 [(1,l1),(2,l2),(3,l3),(4,l4)]) QX.nil
def m(x:gX):Option fY:=bif decide (0<=(x.Q0.length:Int))&&decide ((x.Q0.length:Int)<=(x.Q0.length:Int))&&decide ((x.Q0.length:Int)*(↑1:Int)<=281474976710656)&&decide ((x.Q0.length:Int)<=9223372036854775807) then bindO (M36.m ⟨x.Q0,x.Q1,x.Q4,x.Q3⟩) λy=>bindO (M75.m ⟨x.Q0,x.Q1,x.Q4,x.Q3⟩) λy_1=>bindO (iter s0 ⟨y,y_1,(↑(List.length y_1):Int),0,x.Q0,x.Q1,x.Q4,x.Q3,0,(x.Q0.length:Int).toNat,(x.Q0.length:Int).toNat,x.ln,x.lp,x.QF,x.QG,x.QP,x.value,x.other,x.inn,x.state,List.replicate (x.Q0.length:Int).toNat (0:Int)⟩) λy=>bindO (iter s1 ⟨y.sts,y.sts,(y.sts.length:Int),0,y.Q0,y.Q1,y.Q4,y.Q3,y.Q6,y.Q5,y.Q9,y.ln,y.lp,y.QF,y.QG,y.QP,y.value,y.other,y.inn,y.state,y.xs⟩) λy=>bindO (M40.m ⟨y.Q0,y.Q1,y.Q4,y.Q3⟩) λy_2=>bindO (iter s2 ⟨y.sts,y_2.1,(y_2.1.length:Int),0,y.Q0,y.Q1,y.Q4,y.Q3,y.Q6,y.Q5,y.Q9,y.ln,y.lp,y.QF,y.QG,y.QP,y.value,y.other,y.inn,y.state,y.xs⟩) λy=>bindO (iter s3 ⟨y.sts,y.Q3,(y.Q3.length:Int),0,y.Q0,y.Q1,y.Q4,y.Q3,y.Q6,y.Q5,y.Q9,y.ln,y.lp,y.QF,y.QG,y.QP,y.value,y.other,y.inn,y.state,y.xs,0,0,[]⟩) λy=>bindO (iter s4 ⟨y.sts,(y.sts.length:Int),0,y.Q0,y.Q1,y.Q4,y.Q3,y.Q6,y.Q5,y.Q9,y.ln,y.lp,y.QF,y.QG,y.QP,y.value,y.other,y.inn,y.state,y.xs,y.oa,0,0,[]⟩) λy=>bindO (M88.m ⟨y.oa⟩) λy_3=>bindO (M88.m ⟨y.ob⟩) λy_4=>some (y_3,y_4,y.Q0,y.Q1,y.Q4,y.Q3,y.Q6,y.Q5,y.Q9,y.ln,y.lp,y.QF,y.QG,y.QP,y.value,y.other,y.xs) else none
def known:QQ prog 90 g f m:=
 kc cl s90 (J2 [(0,l0),(1,l1),(2,l2),(3,l3),(4,l4)]) (ac 0 l0_ok (ac 1 l1_ok (ac 2 l2_ok (ac 3 l3_ok (ac 4 l4_ok QX.nil)))))
def con:Con:=Y2 g [.arg 0 0,.cell 0 105,.cell 0 205,.cell 2 0] f m default
def con_ok:J4 prog 90 con:=JY known
end M90a
