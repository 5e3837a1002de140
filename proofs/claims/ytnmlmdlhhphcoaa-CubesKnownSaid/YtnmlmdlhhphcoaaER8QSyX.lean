/- A part of the proof. -/
import Derived.Test.YtnmlmdlhhphcoaaER8QMs
set_option linter.all false
namespace Go.Abs
variable [Gl]
def Map.wx(M:Map)(e:Ext):Map:=⟨M.at',M.res,e⟩
theorem Map.wx_wx(M:Map)(e e':Ext):(M.wx e).wx e'=M.wx e':=rfl
theorem Map.wx_self(M:Map):M.wx M.ex=M:=rfl
def noYC:Cell->Prop
 |.clo f _=>f≠YID
 |_=>True
def inAV(c:Cell):AV->Prop
 |.c x=>c=x
 |.agg xs=>c∈xs
 |.tup xs=>∃p∈xs,match p with|.inl x=>c=x|.inr cs=>c∈cs
def noYA(x:AV):Prop:=∀c,inAV c x->noYC c
def noYH(J:Q4):Prop:=∀o∈J,∀c∈o.cs,noYC c
theorem CR.wx{M:Map}{w:World}{c:Cell}{v:Value}{e:Ext}(h:CR M w c v)(hy:e.yv=M.ex.yv):CR (M.wx e) w c v:=by
 cases c with
 |t x=>exact h
 |ptr r=>exact h
 |sl r l c=>exact h
 |clo f rs=>exact cloR.imp h hy rfl λ_ _ _ _ _ h=>h
theorem CR.ny{M:Map}{w:World}{c:Cell}{v:Value}{e:Ext}(h:CR M w c v)(hy:noYC c):CR (M.wx e) w c v:=by
 cases c with
 |t x=>exact h
 |ptr r=>exact h
 |sl r l c=>exact h
 |clo f rs=>have h:cloR M f rs v:=h;have h2:=cloR.no h hy;exact cloR.mk (M:=M.wx e) hy h2
theorem VR.imp{M I':Map}{w w':World}{x:AV}{v:Value}(h:VR M w x v)(hc:∀c u,inAV c x->CR M w c u->CR I' w' c u):VR I' w' x v:=by
 cases x with
 |c x=>exact hc _ _ rfl h
 |agg xs=>obtain⟨arr,e,h1,h2⟩:=h;exact⟨arr,e,h1,λi hi=>let ⟨u,h3,h4⟩:=h2 i hi;⟨u,h3,hc _ _ (List.getElem_mem hi) h4⟩⟩
 |tup xs=>
  obtain⟨arr,e,h1,h2⟩:=h;refine⟨arr,e,h1,λi hi=> ?_⟩;obtain⟨u,h3,h4⟩:=h2 i hi;refine⟨u,h3,?_⟩;have hmem:=List.getElem_mem hi;generalize xs[i]=y at h4 hmem
  cases y with
  |inl c=>exact hc _ _ ⟨_,hmem,rfl⟩ h4
  |inr cs=>obtain⟨arr',e',h5,h6⟩:=h4;exact⟨arr',e',h5,λj hj=>let ⟨u',h7,h8⟩:=h6 j hj;⟨u',h7,hc _ _ ⟨_,hmem,List.getElem_mem hj⟩ h8⟩⟩
theorem VR.wx{M:Map}{w:World}{x:AV}{v:Value}{e:Ext}(h:VR M w x v)(hy:e.yv=M.ex.yv):VR (M.wx e) w x v:=h.imp λ_ _ _ h=>h.wx hy
theorem VR.ny{M:Map}{w:World}{x:AV}{v:Value}{e:Ext}(h:VR M w x v)(hy:noYA x):VR (M.wx e) w x v:=h.imp λ_ _ hc h=>h.ny (hy _ hc)
theorem HR.imp{M:Map}{J:Q4}{w:World}{e:Ext}(h:HR M J w)(hc:∀o∈J,∀c∈o.cs,∀u,CR M w c u->CR (M.wx e) w c u):HR (M.wx e) J w where
 obj:=λid s hs=>by
  obtain⟨o,h1,h2,h3,h4⟩:=h.obj id s hs;refine⟨o,h1,h2,h3,?_⟩
  cases hl:s.loc with
  |none=>rw[hl]at h4;exact h4
  |some l=>rw[hl]at h4;obtain⟨h5,h6,h7⟩:=h4;exact⟨h5,h6,λi hi=>let ⟨v,h8,h9⟩:=h7 i hi;⟨v,h8,hc o (List.mem_of_getElem? h1) _ (List.getElem_mem hi) _ h9⟩⟩
 inj:=h.inj
 resRow:=h.resRow
 resNo:=h.resNo
theorem HR.wx{M:Map}{J:Q4}{w:World}{e:Ext}(h:HR M J w)(hy:e.yv=M.ex.yv):HR (M.wx e) J w:=h.imp λ_ _ _ _ _ hc=>hc.wx hy
theorem HR.ny{M:Map}{J:Q4}{w:World}{e:Ext}(h:HR M J w)(hy:noYH J):HR (M.wx e) J w:=h.imp λo ho c hc _ h=>h.ny (hy o ho c hc)
theorem Step.wx{M I':Map}{J S':Q4}{w w':World}{e:Ext}(h:Step M J w I' S' w'):Step (M.wx e) J w (I'.wx e) S' w':=
 ⟨h.len,h.size,h.os,h.out,h.keep,h.none,h.new,h.res,rfl,h.resKeep,h.frame⟩
theorem Step.heap{M I':Map}{J τ S':Q4}{w w':World}(hl:τ.length=J.length)(h:Step M J w I' S' w'):Step M τ w I' S' w':=
 ⟨hl▸h.len,h.size,h.os,h.out,h.keep,hl▸h.none,h.new,h.res,h.ex,h.resKeep,h.frame⟩
def junkC(c:Cell):Cell:=match c with
 |.clo f rs=>if f=YID then .t .junk else .clo f rs
 |c=>c
def qG(J:Q4):Q4:=J.map λo=>{ o with cs:=o.cs.map junkC }
theorem junkC_weak(c:Cell):WC c (junkC c):=by
 cases c with
 |clo f rs=>
  show WC _ (if f=YID then _ else _);split
  ·exact .junk _
  ·exact .refl _
 |_=>exact .refl _
theorem junkC_ny(c:Cell):noYC (junkC c):=by
 cases c with
 |clo f rs=>
  show noYC (if f=YID then _ else _);split
  ·trivial
  ·assumption
 |_=>trivial
theorem jW:∀(J:Q4),WH J (qG J)
 |[]=>trivial
 |o::J=>⟨⟨WL.of_get (by simp) λi h h'=>by rw[List.getElem_map];exact junkC_weak _,rfl,rfl⟩,jW J⟩
theorem junkY_ny(J:Q4):noYH (qG J):=λo ho c hc=>by obtain⟨o',_,rfl⟩:=List.mem_map.1 ho;obtain⟨c',_,rfl⟩:=List.mem_map.1 hc;exact junkC_ny c'
theorem HR.put{M:Map}{J:Q4}{w:World}{l:Nat}{o0:Go.Obj}(o:Go.Obj)(h:HR M J w)(hn:noRow o0)(hl:w.heap[l]? =some o0):HR M J (w.putObj l o)/\∀v u,VR M w v u->VR M (w.putObj l o) v u:=
 h.other λb ⟨x,y,z,hb⟩=>Jt λe=>by subst e;rw[hl]at hb;injection hb with hb;exact hn _ _ _ hb
theorem HR.al{M:Map}{J:Q4}{w:World}(o:Go.Obj)(h:HR M J w):HR M J (w.alloc o)/\∀v u,VR M w v u->VR M (w.alloc o) v u:=
 h.other λb hb=>by have:=hb.lt;show(w.heap.push o)[b]? =_;rw[Array.getElem?_push,if_neg (by omega)]
theorem Step.put{I0 M:Map}{S0 J:Q4}{w0 w:World}{l:Nat}{o:Go.Obj}(h0:HR I0 S0 w0)(h:Step I0 S0 w0 M J w)(hl:w0.heap.size<=l):Step I0 S0 w0 M J (w.putObj l o) where
 len:=h.len
 size:=by rw[World.putObj_size];exact h.size
 os:=h.os
 out:=h.out
 keep:=h.keep
 none:=h.none
 new:=h.new
 res:=h.res
 ex:=h.ex
 resKeep:=λb hb=>by rw[Jt (by have:=(h0.resRow b hb).lt;omega)];exact h.resKeep b hb
 frame:=λb hb hu=>by rw[Jt (by omega)];exact h.frame b hb hu
theorem Step.al{I0 M:Map}{S0 J:Q4}{w0 w:World}{o:Go.Obj}(h0:HR I0 S0 w0)(h:Step I0 S0 w0 M J w):Step I0 S0 w0 M J (w.alloc o):=by
 have hg:∀b,b<w.heap.size->(w.alloc o).heap[b]? =w.heap[b]? :=λb hb=>by show(w.heap.push o)[b]? =_;rw[Array.getElem?_push,if_neg (by omega)]
 exact {
   len:=h.len
   size:=by rw[World.size_alloc];exact Nat.le_succ_of_le h.size
   os:=h.os
   out:=h.out
   keep:=h.keep
   none:=h.none
   new:=h.new
   res:=h.res
   ex:=h.ex
   resKeep:=λb hb=>by rw[hg b (Nat.lt_of_lt_of_le (h0.resRow b hb).lt h.size)];exact h.resKeep b hb
   frame:=λb hb hu=>by rw[hg b (Nat.lt_of_lt_of_le hb h.size)];exact h.frame b hb hu }
theorem Ya{r:Go.Loop}:noRow (.loop r):=λ_ _ _ e=>by cases e
theorem noRow_def{d:Option (List Deferred)}:noRow (.deferred d):=λ_ _ _ e=>by cases e
theorem Jf.put{S:List (Nat×Go.Obj)}{w:World}{l:Nat}{o:Go.Obj}(h:Jf S w)(hl:∀p∈S,p.1≠l):Jf S (w.putObj l o):=λp hp=>⟨(h p hp).1,(Jt (hl p hp)).trans (h p hp).2⟩
theorem Jf.al{S:List (Nat×Go.Obj)}{w:World}{o:Go.Obj}(h:Jf S w):Jf S (w.alloc o):=λp hp=>⟨(h p hp).1,by
 have:=h.lt p hp;show(w.heap.push o)[p.1]? =_;rw[Array.getElem?_push,if_neg (by omega)];exact(h p hp).2⟩
theorem Marks.put{n:Nat}{w:World}{ms:List Deferred}{l:Nat}{o:Go.Obj}(h:Marks n w ms)(hl:∀ds,w.heap[l]? ≠some (.deferred ds)):Marks n (w.putObj l o) ms:=
 ⟨λd hd=>by
  obtain⟨b,h1,h2,h3⟩:=h.1 d hd;exact⟨b,h1,h2,(Jt λe=>hl _ (e▸h3)).trans h3⟩,h.2⟩
theorem Marks.al{n:Nat}{w:World}{ms:List Deferred}{o:Go.Obj}(h:Marks n w ms):Marks n (w.alloc o) ms:=
 ⟨λd hd=>by
  obtain⟨b,h1,h2,h3⟩:=h.1 d hd;have:=(Array.getElem?_eq_some_iff.1 h3).1;refine⟨b,h1,h2,?_⟩;show(w.heap.push o)[b]? =_;rw[Array.getElem?_push,if_neg (by omega)];exact h3,h.2⟩
def XD(ms:List Deferred):List (Nat×Go.Obj):=ms.filterMap λd=>match d.target with|.collected b=>some (b,.deferred (some []))|_=>none
theorem jS{ms:List Deferred}{p:Nat×Go.Obj}(h:p∈XD ms):∃d∈ms,d.target=.collected p.1/\p.2=.deferred (some []):=by
 obtain⟨d,hd,h1⟩:=List.mem_filterMap.1 h;split at h1
 ·rename_i b hb;injection h1 with h1;subst h1;exact⟨d,hd,hb,rfl⟩
 ·cases h1
theorem marksS_of{ms:List Deferred}{d:Deferred}{b:Nat}(hd:d∈ms)(hb:d.target=.collected b):(b,Go.Obj.deferred (some []))∈XD ms:=
 List.mem_filterMap.2 ⟨d,hd,by simp[hb]⟩
theorem marksS_ok{n:Nat}{w:World}{ms:List Deferred}(h:Marks n w ms):Jf (XD ms) w:=λp hp=>by obtain⟨d,hd,h1,h2⟩:=jS hp;obtain⟨b,h3,_,h4⟩:=h.1 d hd;rw[h1]at h3;injection h3 with h3;rw[h2,h3];exact⟨noRow_def,h4⟩
theorem Marks.of_snap{n:Nat}{w w':World}{ms:List Deferred}(h:Marks n w ms)(hs:Jf (XD ms) w'):Marks n w' ms:=
 ⟨λd hd=>by
  obtain⟨b,h1,h2,_⟩:=h.1 d hd;exact⟨b,h1,h2,(hs _ (marksS_of hd h1)).2⟩,h.2⟩
def jumpE:Exit->Option (Bool×Nat)
 |.normal=>some (true,0)
 |.ret=>some (false,2)
 |.exit id=>some (false,id+3)
 |_=>none
def Y3(P:Program)(N n0:Nat)(A B:Code)(r:Q3)(J:Q4)(Q:Exit->Q3->Q4->Prop):Prop:=
 ∀l,JH P N (some l) n0 none A r J λe r' S'=>e=.normal/\∃r'',WR r' r''/\r''.get GH=none/\JH P N (some l) n0 none B r'' S' Q
theorem Y3.mono{P:Program}{N n0:Nat}{A B:Code}{r:Q3}{J:Q4}{Q Q':Exit->Q3->Q4->Prop}(h:Y3 P N n0 A B r J Q)(hq:∀e r J,Q e r J->Q' e r J):Y3 P N n0 A B r J Q':=
 λl=>(h l).mono λ_ _ _ ⟨h1,r'',h2,h3,h4⟩=>⟨h1,r'',h2,h3,h4.mono hq⟩
def HeadR(ps:List Nat)(as:List AV)(ρ rb:Q3):Prop:=∀t v,rb.get t=some v->
 (∃i:Nat,ps[i]? =some t/\as[i]? =some v)\/(t<BIG/\t∉ps/\ρ.get (2000000+t)=some v)\/(∃k,k<BIG/\t=1000000+k/\ρ.get k=some v)\/(2000000<=t/\t<3000000/\ρ.get t=some v)
def BackR(m:Nat)(r2 ρ:Q3):Prop:=∀t v,ρ.get t=some v->
 (t<BIG/\r2.get (1000000+t)=some v)\/(2000000<=t/\t<3000000/\r2.get t=some v)\/(t=GH/\v=.c (.t (.fn m [])))
theorem Ws:∀(l:List (Nat×Value)) (a:Array Value),(l.foldl (λt (p:Nat×Value)=>t.setIfInBounds p.1 p.2) a).size=a.size
 |[],_=>rfl
 |p::l,a=>by rw[List.foldl_cons,Ws l];simp
theorem W8:∀(l:List (Nat×Value)) (a:Array Value) (t:Nat),(∀p∈l,p.1≠t)->(l.foldl (λt (p:Nat×Value)=>t.setIfInBounds p.1 p.2) a).getD t undef=a.getD t undef
 |[],_,_,_=>rfl
 |p::l,a,t,h=>by rw[List.foldl_cons,W8 l _ t λq hq=>h q (by simp[hq]),getD_set_ne _ _ (h p (by simp))]
theorem qJ:∀(l:List (Nat×Value)) (a:Array Value) (i t:Nat) (v:Value),(l.map (·.1)).Nodup->l[i]? =some (t,v)->t<a.size->(l.foldl (λt (p:Nat×Value)=>t.setIfInBounds p.1 p.2) a).getD t undef=v
 |[],_,_,_,_,_,h,_=>by simp at h
 |p::l,a,0,t,v,hn,h,ht=>by
  simp only[List.getElem?_cons_zero,Option.some.injEq]at h;subst h;rw[List.foldl_cons,W8]
  ·exact Wq _ _ _ ht
  ·intro q hq e;rw[List.map_cons,List.nodup_cons]at hn;exact hn.1 (List.mem_map.2 ⟨q,hq,e⟩)
 |p::l,a,i+1,t,v,hn,h,ht=>by rw[List.map_cons,List.nodup_cons]at hn;rw[List.foldl_cons];exact qJ l _ i t v hn.2 (by simpa using h) (by simpa using ht)
theorem UE{M:Map}{w:World}{a:Act}{t:Nat}(h:t<BIG):lk M w a t=a.tmps.getD t undef:=by unfold lk;rw[if_neg (by omega)]
theorem KQ{M:Map}{w:World}{a:Act}{t:Nat}(h:BIG<=t)(h':t≠GH):lk M w a t=M.ex.o t:=by unfold lk;rw[if_pos h,if_neg h']
theorem lk_gh{M:Map}{w:World}{a:Act}:lk M w a GH=Y0 M.ex w:=by unfold lk;rw[if_pos (by decide),if_pos rfl]
theorem fn_value{M:Map}{w:World}{m:Nat}{v:Value}(h:VR M w (.c (.t (.fn m []))) v):v=.func (.func m) #[] #[]:=by
 have h:TR M.un w (.fn m []) v:=h
 cases h with
 |fn g caps arr h1 h2=>have:arr= #[]:=Array.size_eq_zero_iff.1 (by simpa using h1);rw[this]
theorem mode_eq{ex:Ext}{w:World}{m:Nat}(h:Y0 ex w=.func (.func m) #[] #[]):∃r,w.heap[ex.l]? =some (.loop r)/\r={ ex.lr with state:=r.state,pending:=r.pending }/\
  ((m=0/\r.state=.ready/\r.pending=none)\/(m=2/\r.state=.done/\r.pending=some .ret)\/(∃id,m=id+3/\r.state=.done/\r.pending=some (.exit id))):=by
 have hne:Y0 ex w≠badV:=λe=>by rw[h]at e;cases e
 obtain⟨r,h1,h2,h3⟩:=jP hne;refine⟨r,h1,h2,?_⟩;rw[h3]at h;unfold Vc at h;split at h
 ·rename_i e1 e2;injection h with h;injection h with h;exact .inl ⟨h.symm,e1,e2⟩
 ·rename_i e1 e2;injection h with h;injection h with h;exact .inr (.inl ⟨h.symm,e1,e2⟩)
 ·rename_i id e1 e2;injection h with h;injection h with h;exact .inr (.inr ⟨id,h.symm,e1,e2⟩)
 ·cases h
theorem run_yieldcall{P:Program}{ρ:Operand->Value}{o:Oper}{f:Operand}{args:Array Operand}{ts:Array TypeId}(ho:o.op=.call { callee:=.value f,args:=args,argTypes:=ts }){l:Nat}(hf:ρ f=.func (.yield l) #[] #[])(w:World):
  (execOp ρ o).run P w=(Instr.yield l (args.map ρ)).run P w:=by
 simp only[execOp,ho,resolve,hf,Deferred.ofValue,invoke];simp
section
variable {P:Program}{N:Nat}{ro:Option Nat}{n0:Nat}
theorem yield_ok{yi:YI}(hyN:yi.n<=BIG)(hps:yi.ps.toList.Nodup)(hpn:∀p∈yi.ps.toList,p<yi.n){I0:Map}{S0:Q4}{w0:World}{ds:DS}(h0:HR I0 S0 w0)(hn0:S0.length<=n0)(hex:ExOk yi I0.ex w0)(hS:∀p∈ds.S,p.1≠I0.ex.l)
  {M:Map} {J:Q4} {w:World} {r:Q3} {a:Act} {ms:List Deferred} (hh:HR M J w) (hr:J3 N M w r a) (hs:Step I0 S0 w0 M J w) (hm:XG ds w0.heap.size w ms)
  {o:Oper} {f:Operand} {args:Array Operand} {ts:Array TypeId} (hop:o.op=.call { callee:=.value f,args:=args,argTypes:=ts }) {caps:List Ref} (hf:ev r f=some (.c (.clo YID caps))) {as:List AV} (has:evl r args.toList=some as) (hlen:as.length=yi.ps.size)
  (hgh:r.get GH=some (.c (.t (.fn 0 [])))) {rb:Q3} (hrb:HeadR yi.ps.toList as r rb) {Qb:Exit->Q3->Q4->Prop} (hb:Y3 P yi.n n0 yi.assign yi.body rb J Qb) (hj:∀e r J,Qb e r J->(jumpE e).isSome=true)
  {next:Act->World->Prop} {Q:Exit->Act->World->Prop}
  (hn:∀e b m r2 S2 I2 w2,Qb e r2 S2->jumpE e=some (b,m)->HR I2 S2 w2->(∀r3 ρ,WR r2 r3->BackR m r3 ρ->J3 N I2 w2 ρ a)->Step I0 S0 w0 I2 S2 w2->XG ds w0.heap.size w2 ms->next (a.put o.dst (.bool b)) w2):
  o.wpIn (wr ro) 0 P a w next Q:=by
 refine⟨λ_ _=>trivial,?_⟩;have hex':M.ex=I0.ex:=hs.ex;obtain⟨l,hl⟩:∃l,l=I0.ex.l:=⟨_,rfl⟩;have hfv:a.eval f=.func (.yield l) #[] #[]:=by have h1:cloR M YID caps (a.eval f):=Jd hr hf;unfold cloR at h1;rw[if_pos rfl,hex',hex.yv,<-hl]at h1;exact h1.1
 obtain⟨us,hus,hu1,hu2⟩:=V3 hr has;have hargs:args.map a.eval=us.toArray:=by apply Array.ext';simpa using hus
 -- the record
 have hg0:=hr.get GH _ hgh;rw[lk_gh]at hg0;obtain⟨rc,hrc,hrc2,hrc3⟩:=mode_eq (fn_value hg0);rw[hex',<-hl]at hrc;rw[hex']at hrc2;have hst:rc.state=.ready/\rc.pending=none:=by
  rcases hrc3 with ⟨_,h⟩|⟨h,_⟩|⟨id,h,_⟩
  ·exact h
  ·omega
  ·omega
 have hp1:rc.params=yi.ps:=by rw[hrc2];exact hex.ps
 have hp2:rc.assign=yi.assign:=by rw[hrc2];exact hex.assign
 have hp3:rc.body=yi.body:=by rw[hrc2];exact hex.body
 have hp4:rc.tmps=I0.ex.lr.tmps:=by rw[hrc2]
 have hlw:l<w.heap.size:=(Array.getElem?_eq_some_iff.1 hrc).1;have hl0:w0.heap.size<=l:=by rw[hl];exact hex.le
 have hzl:(args.map a.eval).size=rc.params.size:=by rw[hargs,hp1];simp[hu1,hlen]
 rw[KL (by rw[hop];intro c e;cases e),run_yieldcall hop hfv,run_yield hrc hzl,Oper.uponIn_round,hp1,hp2,hp3,hp4];refine⟨(λe=>by cases e),?_⟩
 -- the frame of the round
 generalize htm:(yi.ps.zip (args.map a.eval)).foldl (λtmps (x:Nat×Value)=>tmps.setIfInBounds x.1 x.2) I0.ex.lr.tmps=tm;have htm':(yi.ps.toList.zip us).foldl (λtmps (x:Nat×Value)=>tmps.setIfInBounds x.1 x.2) I0.ex.lr.tmps=tm:=by rw[<-htm,<-Array.foldl_toList,Array.toList_zip,hargs]
 obtain⟨eb,heb⟩:∃eb:Ext,eb=⟨I0.ex.yv,λt=>if t<2000000 then a.tmps.getD (t - 1000000) undef else I0.ex.o t,I0.ex.l,I0.ex.lr⟩:=⟨_,rfl⟩;have hy0:eb.yv=I0.ex.yv:=by rw[heb]
 have hy1:eb.yv=M.ex.yv:=by rw[hex',heb]
 have hebl:eb.l=l:=by rw[heb,hl]
 have h0b:HR (I0.wx eb) S0 w0:=h0.wx hy0;have hhb:HR (M.wx eb) J w:=hh.wx hy1;have hsb:Step (I0.wx eb) S0 w0 (M.wx eb) J w:=hs.wx;have hrbR:J3 yi.n (M.wx eb) w rb { tmps:=tm,defers:=[] }:=by
  refine⟨by rw[<-htm',Ws];exact hex.n,hyN,λt v hv=> ?_,hr.gl⟩;have hg:∀{k v},r.get k=some v->VR (M.wx eb) w v (lk M w a k):=λh=>(hr.get _ _ h).wx hy1;rcases hrb t v hv with ⟨i,h1,h2⟩|⟨h1,h2,h3⟩|⟨k,h1,rfl,h3⟩|⟨h1,h2,h3⟩
  ·have htn:t<yi.n:=hpn t (List.mem_of_getElem? h1);rw[UE (by omega)];obtain⟨hia,hie⟩:=List.getElem?_eq_some_iff.1 h2;obtain⟨u,h5,h6⟩:=hu2 i hia;rw[hie]at h6;have:tm.getD t undef=u:=by
    rw[<-htm'];refine qJ _ _ i t u ?_ ?_ (by rw[hex.n];exact htn)
    ·rw[List.map_fst_zip (by simp only[Array.length_toList];omega)];exact hps
    ·rw[List.getElem?_zip_eq_some];exact⟨h1,h5⟩
   show VR _ w v (tm.getD t undef);rw[this];exact h6.wx hy1
  ·rw[UE h1];have:tm.getD t undef=I0.ex.lr.tmps.getD t undef:=(by rw[<-htm'];exact W8 _ _ t λp hp e=>h2 (e▸(List.of_mem_zip hp).1));show VR _ w v (tm.getD t undef);rw[this,<-hex.o t h1,<-hex'];have h4:=hg h3;rwa [KQ (show BIG<=2000000+t by unfold BIG;omega) (by unfold GH;unfold BIG at h1;omega)]at h4
  ·rw[KQ (by unfold BIG;omega) (by unfold GH;unfold BIG at h1;omega)];have h4:=hg h3;rw[UE h1]at h4;show VR _ w v (eb.o (1000000+k));rw[heb];show VR _ w v (if 1000000+k<2000000 then a.tmps.getD (1000000+k - 1000000) undef else _);unfold BIG at h1;rw[if_pos (by omega),Nat.add_sub_cancel_left,<-heb];exact h4
  ·rw[KQ (by unfold BIG;omega) (by unfold GH;omega)];have h4:=hg h3;rw[KQ (by unfold BIG;omega) (by unfold GH;omega),hex']at h4;show VR _ w v (eb.o t);rw[heb];show VR _ w v (if t<2000000 then _ else I0.ex.o t);rw[if_neg (by omega),<-heb];exact h4
 -- what must lie as it lay
 have hdl:∀d∈ms,d.target≠.collected l:=hm.1.others (.inr λds e=>by rw[hrc]at e;cases e);have hSl:∀p∈XD ms++ds.S,p.1≠l:=λp hp=>by
  rcases List.mem_append.1 hp with hp|hp
  ·obtain⟨d,hd,h1,_⟩:=jS hp;intro e;exact hdl d hd (e▸h1)
  ·rw[hl];exact hS p hp
 have hSw:Jf (XD ms++ds.S) w:=λp hp=>by
  rcases List.mem_append.1 hp with hp|hp
  ·exact marksS_ok hm.1 p hp
  ·exact hm.2.1 p hp
 have hS1:Jf ((l,.loop rc)::(XD ms++ds.S)) w:=λp hp=>by
  rcases List.mem_cons.1 hp with rfl|hp
  ·exact⟨Ya,hrc⟩
  ·exact hSw p hp
 have hA:=hb l (I0.wx eb) S0 w0 ⟨[],(l,.loop rc)::(XD ms++ds.S)⟩ h0b hn0 (λ_ h=>by cases h) (M.wx eb) w _ [] hhb hrbR hsb rfl (XG.nil hS1);refine roundIn_of_wpIn (F:=wr ro) trivial (wpIn_mono hA λe a' w' hp=> ?_);obtain⟨_,r',S',I',ms',⟨rfl,r'',hw'',hgh'',hB⟩,hh',hr',hs',_,hm'⟩:=hp;have hrc':w'.heap[l]? =some (.loop rc):=(hm'.2.1 (l,.loop rc) (by simp)).2;have hSw':Jf (XD ms++ds.S) w':=λp hp=>hm'.2.1 p (by simp only[List.mem_cons];exact .inr hp);refine⟨w'.putObj l (.loop { rc with state:=.busy }),run_beginRound hrc' hst.1,?_⟩;generalize hw2:w'.putObj l (.loop { rc with state:=.busy })=w2;have hrc2':w2.heap[l]? =some (.loop { rc with state:=.busy }):=by rw[<-hw2];exact World.putObj_heap_same (Array.getElem?_eq_some_iff.1 hrc').1
 obtain⟨hh2,hv2⟩:=hh'.put (.loop { rc with state:=.busy }) Ya hrc';rw[hw2]at hh2 hv2;have hs2:Step (I0.wx eb) S0 w0 I' S' w2:=by rw[<-hw2];exact hs'.put h0b hl0
 have hx':I'.ex=eb:=hs'.ex;have hr2:J3 yi.n I' w2 r'' a':=by have hr3:=hr'.ZI hw'';refine⟨hr3.size,hr3.low,λt v hv=> ?_,hr3.gl.mono λb hu hb=>⟨hu,by rw[<-hw2];exact Jt λe=>by obtain⟨x,y,z,hb⟩:=hb;rw[e,hrc']at hb;cases hb⟩⟩;have hne:t≠GH:=λe=>(by subst e;rw[hgh'']at hv;cases hv);have h1:=hv2 _ _ (hr3.get t v hv);have e:lk I' w2 a' t=lk I' w' a' t:=(by unfold lk;rw[if_neg hne];simp only[if_neg hne]);rw[e];exact h1
 have hS2:Jf ((l,.loop { rc with state:=.busy })::(XD ms++ds.S)) w2:=λp hp=>by
  rcases List.mem_cons.1 hp with rfl|hp
  ·exact⟨Ya,hrc2'⟩
  ·rw[<-hw2];exact hSw'.put hSl p hp
 have hB2:=hB (I0.wx eb) S0 w0 ⟨a'.defers,(l,.loop { rc with state:=.busy })::(XD ms++ds.S)⟩ h0b hn0 (λ_ h=>by cases h) I' w2 a' [] hh2 hr2 hs2 rfl (XG.nil hS2);refine wpIn_mono hB2 λe a3 w3 hp=> ?_;obtain⟨hpan,r3,S3,I3,ms3,hQ3,hh3,hr3,hs3,_,hm3⟩:=hp;have hrc3':w3.heap[l]? =some (.loop { rc with state:=.busy }):=(hm3.2.1 (l,.loop { rc with state:=.busy }) (by simp)).2;have hSw3:Jf (XD ms++ds.S) w3:=λp hp=>hm3.2.1 p (by simp only[List.mem_cons];exact .inr hp);have hx3:I3.ex=eb:=hs3.ex
 -- behind the round
 have fin:∀(jump:Option Code) (b:Bool) (m:Nat),b=jump.isNone->Vc (if jump.isNone then .ready else .done) jump=.func (.func m) #[] #[]->jumpE e=some (b,m)->
   ∃v w4,(Instr.endRound l jump).run P w3=.ok v w4/\next (a.put o.dst v) w4:=λjump b m hb hmo hje=>by
  refine⟨.bool b,_,by rw[run_endRound jump hrc3',hb],?_⟩;generalize hw4:w3.putObj l (.loop { { rc with state:=.busy } with state:=if jump.isNone then .ready else .done,pending:=jump })=w4;have hrc4:w4.heap[l]? =some (.loop { { rc with state:=.busy } with state:=if jump.isNone then .ready else .done,pending:=jump }):=(by rw[<-hw4];exact World.putObj_heap_same (Array.getElem?_eq_some_iff.1 hrc3').1);obtain⟨hh4,hv4⟩:=hh3.put (.loop { { rc with state:=.busy } with state:=if jump.isNone then .ready else .done,pending:=jump }) Ya hrc3';rw[hw4]at hh4 hv4;have hs4:Step (I0.wx eb) S0 w0 I3 S3 w4:=(by rw[<-hw4];exact hs3.put h0b hl0);have hy3:I0.ex.yv=I3.ex.yv:=(by rw[hx3,hy0]);have hs5:Step I0 S0 w0 (I3.wx I0.ex) S3 w4:=hs4.wx (e:=I0.ex);have hlive:Y0 I0.ex w4=Vc (if jump.isNone then .ready else .done) jump:=modeV_of (by rw[<-hl];exact hrc4) (by rw[hrc2]);have hgen:∀r4 ρ,WR r3 r4->BackR m r4 ρ->J3 N (I3.wx I0.ex) w4 ρ a:=λr4 ρ hwr Hr=>by
   have hr3:=hr3.ZI hwr;refine⟨hr.size,hr.low,λt v hv=> ?_,hr3.gl.mono λb hu hb=>⟨hu,by rw[<-hw4];exact Jt λe=>by obtain⟨x,y,z,hb⟩:=hb;rw[e,hrc3']at hb;cases hb⟩⟩;rcases Hr t v hv with ⟨h1,h2⟩|⟨h1,h2,h3⟩|⟨rfl,rfl⟩
   ·rw[UE h1];have h4:=hr3.get _ _ h2;rw[KQ (by unfold BIG;omega) (by unfold GH;unfold BIG at h1;omega),hx3,heb]at h4;have h5:VR I3 w3 v (if 1000000+t<2000000 then a.tmps.getD (1000000+t - 1000000) undef else I0.ex.o (1000000+t)):=h4;unfold BIG at h1;rw[if_pos (by omega),Nat.add_sub_cancel_left]at h5;exact(hv4 _ _ h5).wx hy3
   ·rw[KQ (by unfold BIG;omega) (by unfold GH;omega)];have h4:=hr3.get _ _ h3;rw[KQ (by unfold BIG;omega) (by unfold GH;omega),hx3,heb]at h4;have h5:VR I3 w3 v (if t<2000000 then a.tmps.getD (t - 1000000) undef else I0.ex.o t):=h4;rw[if_neg (by omega)]at h5;exact(hv4 _ _ h5).wx hy3
   ·rw[lk_gh];show VR _ w4 _ (Y0 I0.ex w4);rw[hlive,hmo];exact TR.fn m [] #[] rfl λi hi=>absurd hi (by simp)
  have hmk:XG ds w0.heap.size w4 ms:=(by have hS4:Jf (XD ms++ds.S) w4:=(by rw[<-hw4];exact hSw3.put hSl);exact⟨hm.1.of_snap λp hp=>hS4 p (List.mem_append.2 (.inl hp)),λp hp=>hS4 p (List.mem_append.2 (.inr hp)),hm.2.2⟩);exact hn e b m r3 S3 (I3.wx I0.ex) w4 hQ3 hje (hh4.wx hy3) hgen hs5 hmk
 cases e with
 |normal=>exact fin none true 0 rfl rfl rfl
 |ret=>exact fin (some .ret) false 2 rfl rfl rfl
 |exit id=>exact fin (some (.exit id)) false (id+3) rfl rfl rfl
 |goto t=>have:=hj _ _ _ hQ3;cases this
 |panic ch=>exact hpan.elim
 |outgrown=>exact hpan.elim
def EnterR(caps:List AV)(r ri:Q3):Prop:=∀t v,ri.get t=some v->(AV.c (.clo YID [])::caps)[t]? =some v\/(∃k,k<BIG/\t=2000000+k/\noYA v/\r.get k=some v)\/(t=GH/\v=.c (.t (.fn 0 [])))
def LeaveR(ρ R':Q3):Prop:=∀t v,R'.get t=some v->t<BIG/\noYA v/\ρ.get (2000000+t)=some v
def modeE(m:Nat)(e:Exit):Prop:=(m=0/\e=.normal)\/(m=2/\e=.ret)\/∃id,m=id+3/\e=.exit id
theorem caps_ny{fv:AV}{g:FuncId}{caps:List AV}(h:Jw fv=some (g,caps)):∀v∈caps,noYA v:=by
 unfold Jw at h;split at h
 ·injection h with h;injection h with _ h;subst h;intro v hv c hc;obtain⟨t,_,rfl⟩:=List.mem_map.1 hv;cases hc;trivial
 ·split at h
  ·cases h
  ·injection h with h;injection h with _ h;subst h;intro v hv c hc;obtain⟨t,_,rfl⟩:=List.mem_map.1 hv;cases hc;trivial
 ·cases h
theorem target_val{M:Map}{w:World}{fv:AV}{g:FuncId}{caps:List AV}{u:Value}(ht:Jw fv=some (g,caps))(hfv:VR M w fv u):
  ∃arr,u=.func (.func g) #[] arr/\arr.size=caps.length/\∀i (hi:i<caps.length),∃u,arr[i]? =some u/\VR M w caps[i] u:=by
 unfold Jw at ht;split at ht
 ·rename_i f' cs;injection ht with ht;injection ht with e1 e2;subst e1;subst e2;have hfv:TR M.un w (.fn f' cs) u:=hfv
  cases hfv with
  |fn f' cs arr h1 h2=>refine⟨arr,rfl,by simpa using h1,λi hi=> ?_⟩;have hi':i<cs.length:=(by simpa using hi);have hlt:i<arr.size:=(by omega);refine⟨arr[i],by simp[hlt],?_⟩;have:=h2 i hi';simp only[Array.getD,hlt,dif_pos]at this;simpa [VR,CR] using this
 ·rename_i f' rs;split at ht
  ·cases ht
  rename_i hy;injection ht with ht;injection ht with e1 e2;subst e1;subst e2;obtain⟨arr,e,h1,h2⟩:=cloR.no hfv hy;refine⟨arr,e,by simpa using h1,λi hi=> ?_⟩;have hi':i<rs.length:=(by simpa using hi);have hlt:i<arr.size:=(by omega);obtain⟨ad,h3,h4⟩:=h2 i hi';have h3':arr[i]=.pointer (some ad):=(by simp only[Array.getD,hlt,dif_pos]at h3;exact h3);refine⟨arr[i],by simp[hlt],?_⟩;rw[List.getElem_map];exact⟨ad,h3',h4⟩
 ·cases ht
theorem Step.other{I0 M:Map}{S0 J:Q4}{w0 w w':World}(h0:HR I0 S0 w0)(h:Step I0 S0 w0 M J w)(hb:∀b,b<w0.heap.size->w'.heap[b]? =w.heap[b]?)(hsz:w'.heap.size=w.heap.size)(hos:w'.os=w.os)(hout:w'.output=w.output):Step I0 S0 w0 M J w' where
 len:=h.len
 size:=by rw[hsz];exact h.size
 os:=hos.trans h.os
 out:=hout.trans h.out
 keep:=h.keep
 none:=h.none
 new:=h.new
 res:=h.res
 ex:=h.ex
 resKeep:=λb hr=>(hb b (h0.resRow b hr).lt).trans (h.resKeep b hr)
 frame:=λb hlt hu=>(hb b hlt).trans (h.frame b hlt hu)
theorem okF_rng{Y:Option YI}{g:Operand}{ps:Array Tmp}{A B:Code}{r:Q3}{J:Q4}{Q:Exit->Q3->Q4->Prop}{fv:AV}{gf:FuncId}{caps:List AV}(hg:ev r g=some fv)(ht:Jw fv=some (gf,caps))
   {fn : Func} {c : Code} (hf : P.funcs[gf]? = some fn) (hb : fn.body = some c) (hname : (fn.name == "runtime.NumGoroutine") = false) (hres : fn.results.toList = []) (hl : fn.ntmps <= BIG) (hlen : 1 + caps.length <= fn.ntmps)
   (hny:noYH J) {ri:Q3} (hri:EnterR caps r ri) {Qi:Exit->Q3->Q4->Prop} (hc:JH P fn.ntmps none n0 (some ⟨ps,A,B,N⟩) c ri J Qi)
   (hQ:∀e ρ τ,Qi e ρ τ->(e=.normal\/e=.ret)/\∃m e' R',ρ.get GH=some (.c (.t (.fn m [])))/\modeE m e'/\LeaveR ρ R'/\noYH τ/\Q e' R' τ):JH P N none n0 Y (.rangeFunc g ps A B) r J Q:=by
 intro I0 S0 w0 ds h0 hn hY M w a ms hh hr hs hd hm;refine wpIn_rangeFunc λfnid _=> ?_;obtain⟨rc,hrc⟩:∃rc:Go.Loop,rc={ state:=.ready,pending:=none,fn:=fnid,tmps:=a.tmps,params:=ps,assign:=A,body:=B,defers:=w.heap.size }:=⟨_,rfl⟩;obtain⟨W1,hW1⟩:∃W1,(w.alloc (.deferred (some []))).alloc (.loop rc)=W1:=⟨_,rfl⟩;have hL1:W1.heap[w.heap.size+1]? =some (.loop rc):=by rw[<-hW1];have:=World.alloc_heap_new (w.alloc (.deferred (some []))) (.loop rc);rwa [World.size_alloc]at this
 have hK1:W1.heap[w.heap.size]? =some (.deferred (some [])):=by rw[<-hW1];show((w.heap.push _).push _)[w.heap.size]? =_;rw[Array.getElem?_push,if_neg (by simp),Array.getElem?_push,if_pos rfl]
 obtain⟨arr,harr,hsz,hcap⟩:=target_val ht (Jd hr hg);have hcal:∀args (w:World),(callFunc gf args).run P w=.ok (.enter gf args) w:=λargs w=>by have h2' : ¬ fn.name = "runtime.NumGoroutine" := λe => (by rw [e] at hname; simp at hname);have h3':¬fn.body=none:=λe=>(by rw[e]at hb;cases hb);simp only[callFunc];simp[hf,h2',h3']
 refine⟨w.heap.size+1,[{ target:=.collected w.heap.size,args:= #[] }],W1,{ target:=.fn (.func gf) arr,args:= #[.func (.yield (w.heap.size+1)) #[] #[]] },W1,gf,
   #[.func (.yield (w.heap.size+1)) #[] #[]]++arr,W1,?_,?_,?_,?_,(λe=>by cases e),?_⟩
 · rw[<-hW1,hrc];exact run_enterLoop_outer _ _ _ _ _
 · simp only[resolve,harr]
   simp[go_sem]
 · intro f' hf';trivial
 · simp[invoke,go_sem,hcal]
 -- the iterator
 obtain⟨ex1,hex1⟩:∃ex1:Ext,ex1=⟨.func (.yield (w.heap.size+1)) #[] #[],λt=>a.tmps.getD (t - 2000000) undef,w.heap.size+1,rc⟩:=⟨_,rfl⟩;have h0':HR (I0.wx ex1) (qG S0) w0:=(h0.ZI (jW S0)).ny (junkY_ny S0);have hlj:(qG S0).length=S0.length:=by simp[qG]
 obtain⟨hw1,hv1⟩:=hh.al (.deferred (some []));obtain⟨hw2,hv2⟩:=hw1.al (.loop rc);rw[hW1]at hw2 hv2;have hs1:Step I0 S0 w0 M J W1:=by rw[<-hW1];exact(hs.al h0).al h0
 have hex':M.ex=I0.ex:=hs.ex;have hl1:ex1.l=w.heap.size+1:=by rw[hex1]
 have hr1:ex1.lr=rc:=by rw[hex1]
 have hexOk:ExOk ⟨ps,A,B,N⟩ ex1 w0:={
   le:=by rw[hl1];exact Nat.le_succ_of_le hs.size
   yv:=by rw[hex1]
   ps:=by rw[hr1,hrc]
   assign:=by rw[hr1,hrc]
   body:=by rw[hr1,hrc]
   n:=by rw[hr1,hrc];exact hr.size
   o:=λt _=>by
     rw[hex1];show a.tmps.getD (2000000+t - 2000000) undef=rc.tmps.getD t undef;rw[Nat.add_sub_cancel_left,hrc] }
 have hSw:Jf (XD ms++ds.S) w:=λp hp=>by
   rcases List.mem_append.1 hp with hp|hp
   · exact marksS_ok hm.1 p hp
   · exact hm.2.1 p hp
 have hS1:Jf ((w.heap.size,.deferred (some []))::(XD ms++ds.S)) W1:=λp hp=>by
   rcases List.mem_cons.1 hp with rfl|hp
   · exact⟨noRow_def,hK1⟩
   · rw[<-hW1];exact hSw.al.al p hp
 have hSl:∀p∈(w.heap.size,Go.Obj.deferred (some []))::(XD ms++ds.S),p.1≠ex1.l:=λp hp=>by
   rw[hl1];rcases List.mem_cons.1 hp with rfl|hp
   · show w.heap.size≠_;omega
   · have:=hSw.lt p hp;omega
 refine callsIn_of_wp_marks hf hb trivial ?_ rfl;have hasz:(#[.func (.yield (w.heap.size+1)) #[] #[]]++arr:Array Value).size=1+caps.length:=by first|(simp[hsz];omega)|simp[hsz]
 have hriR:J3 fn.ntmps (M.wx ex1) W1 ri { tmps:=(#[.func (.yield (w.heap.size+1)) #[] #[]]++arr)++Array.replicate (fn.ntmps - (#[.func (.yield (w.heap.size+1)) #[] #[]]++arr:Array Value).size) undef,defers:=[] }:=by
   refine⟨by first|(rw[hasz];simp[hsz];omega)|(simp[hsz];omega),hl,λt v hv=> ?_,hr.gl.mono λb hu hb=>⟨hu,by rw[<-hW1];show((w.heap.push _).push _)[b]? =_;have:=hb.lt;rw[Array.getElem?_push,if_neg (by simp;omega),Array.getElem?_push,if_neg (by omega)]⟩⟩;rcases hri t v hv with h1|⟨k,h1,rfl,h2,h3⟩|⟨rfl,rfl⟩
   · have htl:=(List.getElem?_eq_some_iff.1 h1).1
     simp only[List.length_cons]at htl;rw[UE (by omega)]
     cases t with
     |zero=>simp only[List.getElem?_cons_zero,Option.some.injEq]at h1;subst h1;refine(show cloR (M.wx ex1) YID [] _ from ?_);unfold cloR;rw[if_pos rfl];have:((#[Value.func (.yield (w.heap.size+1)) #[] #[]]++arr)++Array.replicate (fn.ntmps - (#[Value.func (.yield (w.heap.size+1)) #[] #[]]++arr:Array Value).size) undef).getD 0 undef=.func (.yield (w.heap.size+1)) #[] #[]:=(by rw[Array.getD_eq_getD_getElem?,Array.getElem?_append_left (by rw[hasz];omega),Array.getElem?_append_left (by simp)];rfl);rw[this];exact⟨by show _=ex1.yv;rw[hex1],_,rfl⟩
     |succ i=>rw[List.getElem?_cons_succ]at h1;obtain⟨hi,h2⟩:=List.getElem?_eq_some_iff.1 h1;obtain⟨u,h3,h4⟩:=hcap i hi;have:((#[Value.func (.yield (w.heap.size+1)) #[] #[]]++arr)++Array.replicate (fn.ntmps - (#[Value.func (.yield (w.heap.size+1)) #[] #[]]++arr:Array Value).size) undef).getD (i+1) undef=u:=(by rw[Array.getD_eq_getD_getElem?,Array.getElem?_append_left (by rw[hasz];omega),Array.getElem?_append_right (by simp)];simp[h3]);show VR _ W1 v (Array.getD _ (i+1) undef);rw[this,<-h2];refine VR.ny ?_ (caps_ny ht _ (List.getElem_mem hi));exact hv2 _ _ (hv1 _ _ h4)
   · rw[KQ (by unfold BIG;omega) (by unfold GH;unfold BIG at h1;omega)]
     have h4:=hr.get _ _ h3;rw[UE h1]at h4;show VR _ W1 v (ex1.o (2000000+k));have:ex1.o (2000000+k)=a.tmps.getD k undef:=(by rw[hex1];show a.tmps.getD (2000000+k - 2000000) undef=_;rw[Nat.add_sub_cancel_left]);rw[this];exact(hv2 _ _ (hv1 _ _ h4)).ny h2
   · rw[lk_gh]
     show VR _ W1 _ (Y0 ex1 W1);rw[modeV_of (r:=rc) (by rw[hl1];exact hL1) (by rw[hr1,hrc]),hrc];exact TR.fn 0 [] #[] rfl λi hi=>absurd hi (by simp)
 refine wpIn_mono (hc (I0.wx ex1) (qG S0) w0 ⟨[],(w.heap.size,.deferred (some []))::(XD ms++ds.S)⟩ h0' (by rw[hlj];exact hn) (λy hy=>by injection hy with hy;subst hy;exact⟨hexOk,hSl⟩)
   (M.wx ex1) W1 _ [] (hw2.ny hny) hriR ((hs1.heap hlj).wx) rfl (XG.nil hS1)) λe a' w' hp=> ?_
 obtain⟨_,r',S',I',ms',hQi,hh',hr',hs',hd',hm'⟩:=hp;obtain⟨he,m,e',R',hgh,hme,hlv,hny',hQ'⟩:=hQ e r' S' hQi;have hd'':a'.defers=ms':=by rw[hd'];simp
 have hx':I'.ex=ex1:=hs'.ex;have hg0:=hr'.get GH _ hgh;rw[lk_gh,hx']at hg0;obtain⟨r1,hr1',hr2',hr3'⟩:=mode_eq (fn_value hg0);rw[hl1]at hr1';have hbusy:r1.state≠.busy:=by rcases hr3' with ⟨_,h,_⟩|⟨_,h,_⟩|⟨_,_,h,_⟩<;>rw[h]<;>intro e<;>cases e
 have hleave:LeavesInM (wr none) 0 P fn a'.tmps (rangePost (wr none) 0 P (w.heap.size+1) (Uf N Q I0 S0 w0 ds) { a with defers:=[{ target:=.collected w.heap.size,args:= #[] }]++a.defers }) ms' .returning w':=by
   refine KR ms' w' hm'.1 λw'' hoth hsz' hos hout=> ?_;have hrow:∀b,isRow w' b->w''.heap[b]? =w'.heap[b]? :=λb ⟨x,y,z,hb⟩=>hoth b (hm'.1.others (.inr λds e=>by rw[hb]at e;cases e));have hlow:∀b,b<w0.heap.size->w''.heap[b]? =w'.heap[b]? :=λb hb=>hoth b (hm'.1.others (.inl hb));obtain⟨h7,h8⟩:=hh'.other hrow;have hr'':J3 fn.ntmps I' w'' r' a':=⟨hr'.size,hr'.low,λt x hx=>by
     have hx':=hr'.get t x hx;rw[lk_mode hx' rfl λr hr=>hoth _ (hm'.1.others (.inr λds e=>by rw[hr]at e;cases e))];exact h8 _ _ hx',hr'.gl.mono λb hu hb=>⟨hu,hrow b hb⟩⟩
   obtain⟨u,h9,_⟩:=retE_ok (P:=P) h7 hr'' (fn:=fn) (v:=.tup []) (by rw[hres];rfl);refine⟨u,h9,?_⟩;have hr1'':w''.heap[w.heap.size+1]? =some (.loop r1):=(hoth _ (hm'.1.others (.inr λds e=>by rw[hr1']at e;cases e))).trans hr1';refine⟨r1.pending,_,run_endLoop hr1'' hbusy,?_⟩;generalize hw4:w''.putObj (w.heap.size+1) (.loop { r1 with state:=.exhausted })=w4;obtain⟨hh4,hv4⟩:=h7.put (.loop { r1 with state:=.exhausted }) Ya hr1'';rw[hw4]at hh4 hv4;have hs4:Step I0 S0 w0 (I'.wx M.ex) S' w4:=(by have h1:Step (I0.wx ex1) (qG S0) w0 I' S' w4:=(by rw[<-hw4];exact(hs'.other h0' hlow hsz' hos hout).put h0' (Nat.le_succ_of_le hs.size));have h2:Step ((I0.wx ex1).wx M.ex) (qG S0) w0 (I'.wx M.ex) S' w4:=h1.wx;rw[Map.wx_wx,hex',Map.wx_self]at h2;rw[hex'];exact h2.heap hlj.symm);have hreg:J3 N (I'.wx M.ex) w4 R' { a with defers:=[{ target:=.collected w.heap.size,args:= #[] }]++a.defers }:=(by refine⟨hr.size,hr.low,λt v hv=> ?_,hr''.gl.mono λb hu hb=>⟨hu,by rw[<-hw4];exact Jt λe=>by obtain⟨x,y,z,hb⟩:=hb;rw[e,hr1'']at hb;cases hb⟩⟩;obtain⟨h1,h2,h3⟩:=hlv t v hv;rw[UE h1];have h4:=hr'.get _ _ h3;rw[KQ (by unfold BIG;omega) (by unfold GH;unfold BIG at h1;omega),hx',hex1]at h4;have h5:VR I' w' v (a.tmps.getD (2000000+t - 2000000) undef):=h4;rw[Nat.add_sub_cancel_left]at h5;exact(hv4 _ _ (h8 _ _ h5)).ny h2);have hS4:Jf ((w.heap.size,.deferred (some []))::(XD ms++ds.S)) w4:=(by have h1:Jf ((w.heap.size,.deferred (some []))::(XD ms++ds.S)) w'':=λp hp=>⟨(hm'.2.1 p hp).1,(hoth p.1 λd hd=>hm'.2.2 d hd p hp).trans (hm'.2.1 p hp).2⟩;rw[<-hw4];exact h1.put λp hp=>by have:=hSl p hp;rwa [hl1]at this);have hmk:XG ds w0.heap.size w4 ({ target:=.collected w.heap.size,args:= #[] }::ms):=by
     have h1:Marks w0.heap.size w4 ms:=hm.1.of_snap λp hp=>hS4 p (by simp only[List.mem_cons,List.mem_append];exact .inr (.inl hp));refine⟨⟨λd hd=> ?_,List.pairwise_cons.2 ⟨λd hd e=> ?_,h1.2⟩⟩,λp hp=>hS4 p (by simp only[List.mem_cons,List.mem_append];exact .inr (.inr hp)),λd hd p hp e=> ?_⟩
     · rcases List.mem_cons.1 hd with rfl|hd
       · exact⟨w.heap.size,rfl,hs.size,(hS4 (w.heap.size,.deferred (some [])) (by simp)).2⟩
       · exact h1.1 d hd
     · have:=hm.1.lt d hd w.heap.size e.symm
       omega
     · rcases List.mem_cons.1 hd with rfl|hd
       · have:=hm.2.1.lt p hp
         injection e with e;omega
       · exact hm.2.2 d hd p hp e
   have hdf:({ a with defers:=[{ target:=.collected w.heap.size,args:= #[] }]++a.defers }:Act).defers=({ target:=.collected w.heap.size,args:= #[] }::ms)++ds.l:=by show [_]++a.defers=_;rw[hd];rfl
   have fin:∀e,(match e with|.panic _|.outgrown=>False|_=>True)->Q e R' S'->Uf N Q I0 S0 w0 ds e { a with defers:=[{ target:=.collected w.heap.size,args:= #[] }]++a.defers } w4:=λe he hq=>
     ⟨he,R',S',I'.wx M.ex,_,hq,hh4.ny hny',hreg,hs4,hdf,hmk⟩
   rcases hme with ⟨rfl,rfl⟩|⟨rfl,rfl⟩|⟨id,rfl,rfl⟩
   · rcases hr3' with ⟨_,_,h⟩|⟨h,_⟩|⟨_,h,_⟩
     · rw[h];exact fin _ trivial hQ'
     · omega
     · omega
   · rcases hr3' with ⟨h,_⟩|⟨_,_,h⟩|⟨_,h,_⟩
     · omega
     · rw[h];exact wpIn_ret (fin _ trivial hQ')
     · omega
   · rcases hr3' with ⟨h,_⟩|⟨h,_⟩|⟨id',h1,_,h⟩
     · omega
     · omega
     · have:id'=id:=by omega
       subst this;rw[h];exact wpIn_exit (fin _ trivial hQ')
 rcases he with rfl|rfl
 · show LeavesInM _ _ _ _ _ _ a'.defers _ _
   rw[hd''];exact hleave
 · show LeavesInM _ _ _ _ _ _ a'.defers _ _
   rw[hd''];exact hleave
end
end Go.Abs
