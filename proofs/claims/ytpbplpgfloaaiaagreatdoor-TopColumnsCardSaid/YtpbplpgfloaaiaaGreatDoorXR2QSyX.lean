/- A part of the proof. -/
import Derived.Test.YtpbplpgfloaaiaaGreatDoorXR2QMs
set_option linter.all false
namespace Go.Abs
variable [Gl]
def Map.wx(ι:Map)(e:Ext):Map:=⟨ι.at',ι.res,e⟩
def inAV(c:Cell):AV->Prop
 |.c x=>c=x
 |.agg xs=>c∈xs
 |.tup xs=>∃p∈xs,match p with|.inl x=>c=x|.inr cs=>c∈cs
theorem CR.wx{ι:Map}{w:World}{c:Cell}{v:Value}{e:Ext}(h:CR ι w c v)(hy:e.yv=ι.ex.yv):CR (ι.wx e) w c v:=by
 cases c with
 |t x=>exact h
 |ptr r=>exact h
 |sl r l c=>exact h
 |clo f rs=>exact cloR.imp h hy rfl λ_ _ _ _ _ h=>h
theorem VR.imp{ι I':Map}{w w':World}{x:AV}{v:Value}(h:VR ι w x v)(hc:∀c u,inAV c x->CR ι w c u->CR I' w' c u):VR I' w' x v:=by
 cases x with
 |c x=>exact hc _ _ rfl h
 |agg xs=>obtain⟨arr,e,h1,h2⟩:=h;exact⟨arr,e,h1,λi hi=>let ⟨u,h3,h4⟩:=h2 i hi;⟨u,h3,hc _ _ (AH hi) h4⟩⟩
 |tup xs=>
  obtain⟨arr,e,h1,h2⟩:=h;refine⟨arr,e,h1,λi hi=> ?_⟩;obtain⟨u,h3,h4⟩:=h2 i hi;refine⟨u,h3,?_⟩;have hmem:=AH hi;generalize xs[i]=y at h4 hmem
  cases y with
  |inl c=>exact hc _ _ ⟨_,hmem,rfl⟩ h4
  |inr cs=>obtain⟨arr',e',h5,h6⟩:=h4;exact⟨arr',e',h5,λj hj=>let ⟨u',h7,h8⟩:=h6 j hj;⟨u',h7,hc _ _ ⟨_,hmem,AH hj⟩ h8⟩⟩
theorem VR.wx{ι:Map}{w:World}{x:AV}{v:Value}{e:Ext}(h:VR ι w x v)(hy:e.yv=ι.ex.yv):VR (ι.wx e) w x v:=h.imp λ_ _ _ h=>h.wx hy
theorem HR.imp{ι:Map}{J:Q1}{w:World}{e:Ext}(h:HR ι J w)(hc:∀o∈J,∀c∈o.cs,∀u,CR ι w c u->CR (ι.wx e) w c u):HR (ι.wx e) J w where
 obj:=λid s hs=>by
  obtain⟨o,h1,h2,h3,h4⟩:=h.obj id s hs;refine⟨o,h1,h2,h3,?_⟩
  cases hl:s.loc with
  |none=>rw[hl]at h4;exact h4
  |some l=>rw[hl]at h4;obtain⟨h5,h6,h7⟩:=h4;exact⟨h5,h6,λi hi=>let ⟨v,h8,h9⟩:=h7 i hi;⟨v,h8,hc o (BM h1) _ (AH hi) _ h9⟩⟩
 inj:=h.inj
 resRow:=h.resRow
 resNo:=h.resNo
theorem HR.wx{ι:Map}{J:Q1}{w:World}{e:Ext}(h:HR ι J w)(hy:e.yv=ι.ex.yv):HR (ι.wx e) J w:=h.imp λ_ _ _ _ _ hc=>hc.wx hy
theorem Step.wx{ι I':Map}{J S':Q1}{w w':World}{e:Ext}(h:Step ι J w I' S' w'):Step (ι.wx e) J w (I'.wx e) S' w':=
 ⟨h.len,h.size,h.os,h.out,h.keep,h.none,h.new,h.res,rfl,h.resKeep,h.frame⟩
theorem Step.heap{ι I':Map}{J τ S':Q1}{w w':World}(hl:τ.length=J.length)(h:Step ι J w I' S' w'):Step ι τ w I' S' w':=
 ⟨hl▸h.len,h.size,h.os,h.out,h.keep,hl▸h.none,h.new,h.res,h.ex,h.resKeep,h.frame⟩
theorem HR.put{ι:Map}{J:Q1}{w:World}{l:Nat}{o0:Go.Obj}(o:Go.Obj)(h:HR ι J w)(hn:noRow o0)(hl:w.heap[l]? =some o0)(hm:∀es c,o0≠.map es c:=by intro _ _ e;cases e):HR ι J (w.putObj l o)/\∀v u,VR ι w v u->VR ι (w.putObj l o) v u:=
 h.other λb hd=>Jr λe=>by
  subst e;rcases hd with ⟨x,y,z,hb⟩|⟨x,y,hb⟩<;>rw[hl]at hb<;>injection hb with hb
  ·exact hn _ _ _ hb
  ·exact hm _ _ hb
theorem HR.al{ι:Map}{J:Q1}{w:World}(o:Go.Obj)(h:HR ι J w):HR ι J (w.alloc o)/\∀v u,VR ι w v u->VR ι (w.alloc o) v u:=
 h.other λb hb=>by have:=hb.lt;show(w.heap.push o)[b]? =_;rw[BJ,AP (by omega)]
theorem Step.put{I0 ι:Map}{S0 J:Q1}{w0 w:World}{l:Nat}{o:Go.Obj}(h0:HR I0 S0 w0)(h:Step I0 S0 w0 ι J w)(hl:w0.heap.size<=l):Step I0 S0 w0 ι J (w.putObj l o) where
 len:=h.len
 size:=by rw[World.putObj_size];exact h.size
 os:=h.os
 out:=h.out
 keep:=h.keep
 none:=h.none
 new:=h.new
 res:=h.res
 ex:=h.ex
 resKeep:=λb hb=>by rw[Jr (by have:=(h0.resRow b hb).lt;omega)];exact h.resKeep b hb
 frame:=λb hb hu=>by rw[Jr (by omega)];exact h.frame b hb hu
theorem Step.al{I0 ι:Map}{S0 J:Q1}{w0 w:World}{o:Go.Obj}(h0:HR I0 S0 w0)(h:Step I0 S0 w0 ι J w):Step I0 S0 w0 ι J (w.alloc o):=by
 have hg:∀b,b<w.heap.size->(w.alloc o).heap[b]? =w.heap[b]? :=λb hb=>by show(w.heap.push o)[b]? =_;rw[BJ,AP (by omega)]
 exact {
   len:=h.len
   size:=by rw[World.size_alloc];exact Nat.le_succ_of_le h.size
   os:=h.os
   out:=h.out
   keep:=h.keep
   none:=h.none
   new:=h.new
   res:=h.res
   ex:=h.ex
   resKeep:=λb hb=>by rw[hg b (BV (h0.resRow b hb).lt h.size)];exact h.resKeep b hb
   frame:=λb hb hu=>by rw[hg b (BV hb h.size)];exact h.frame b hb hu }
theorem XM.put{S:List (Nat×Go.Obj)}{w:World}{l:Nat}{o:Go.Obj}(h:XM S w)(hl:∀p∈S,p.1≠l):XM S (w.putObj l o):=λp hp=>⟨(h p hp).1,(Jr (hl p hp)).trans (h p hp).2⟩
theorem XM.al{S:List (Nat×Go.Obj)}{w:World}{o:Go.Obj}(h:XM S w):XM S (w.alloc o):=λp hp=>⟨(h p hp).1,by
 have:=h.lt p hp;show(w.heap.push o)[p.1]? =_;rw[BJ,AP (by omega)];exact(h p hp).2⟩
theorem Marks.put{n:Nat}{w:World}{ms:List Deferred}{l:Nat}{o:Go.Obj}(h:Marks n w ms)(hl:∀ds,w.heap[l]? ≠some (.deferred ds)):Marks n (w.putObj l o) ms:=
 ⟨λd hd=>by
  obtain⟨b,h1,h2,h3⟩:=h.1 d hd;exact⟨b,h1,h2,(Jr λe=>hl _ (e▸h3)).trans h3⟩,h.2⟩
theorem Marks.al{n:Nat}{w:World}{ms:List Deferred}{o:Go.Obj}(h:Marks n w ms):Marks n (w.alloc o) ms:=
 ⟨λd hd=>by
  obtain⟨b,h1,h2,h3⟩:=h.1 d hd;have:=(A8.1 h3).1;refine⟨b,h1,h2,?_⟩;show(w.heap.push o)[b]? =_;rw[BJ,AP (by omega)];exact h3,h.2⟩
def Yq(P:Program)(N n0:Nat)(A B:Code)(r:Q3)(J:Q1)(Q:Exit->Q3->Q1->Prop):Prop:=
 ∀l,Qx P N (some l) n0 none A r J λe r' S'=>e=.normal/\∃r'',WR r' r''/\r''.get GH=none/\Qx P N (some l) n0 none B r'' S' Q
theorem Yq.mono{P:Program}{N n0:Nat}{A B:Code}{r:Q3}{J:Q1}{Q Q':Exit->Q3->Q1->Prop}(h:Yq P N n0 A B r J Q)(hq:∀e r J,Q e r J->Q' e r J):Yq P N n0 A B r J Q':=
 λl=>(h l).mono λ_ _ _ ⟨h1,r'',h2,h3,h4⟩=>⟨h1,r'',h2,h3,h4.mono hq⟩
section
variable {P:Program}{N:Nat}{ro:Option Nat}{n0:Nat}
theorem Step.other{I0 ι:Map}{S0 J:Q1}{w0 w w':World}(h0:HR I0 S0 w0)(h:Step I0 S0 w0 ι J w)(hb:∀b,b<w0.heap.size->w'.heap[b]? =w.heap[b]?)(hsz:w'.heap.size=w.heap.size)(hos:w'.os=w.os)(hout:w'.output=w.output):Step I0 S0 w0 ι J w' where
 len:=h.len
 size:=by rw[hsz];exact h.size
 os:=hos.trans h.os
 out:=hout.trans h.out
 keep:=h.keep
 none:=h.none
 new:=h.new
 res:=h.res
 ex:=h.ex
 resKeep:=λb hr=>(hb b (h0.resRow b hr).lt).trans (h.resKeep b hr)
 frame:=λb hlt hu=>(hb b hlt).trans (h.frame b hlt hu)
end
end Go.Abs
