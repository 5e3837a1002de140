/- A part of the proof. -/
import Derived.Test.YtpbplpgfloaaiaaGreatDoorXS2QMs
set_option linter.all false
namespace Go.Abs
variable [Gl]
def Map.wx(O:Map)(e:Ext):Map:=⟨O.at',O.res,e⟩
def inAV(c:Cell):AV->Prop
 |.c x=>c=x
 |.agg xs=>c∈xs
 |.tup xs=>∃p∈xs,match p with|.inl x=>c=x|.inr cs=>c∈cs
def CR.wx{O:Map}{w:World}{c:Cell}{v:Value}{e:Ext}(h:CR O w c v)(hy:e.yv=O.ex.yv):CR (O.wx e) w c v:=by
 cases c with
 |t x=>exact h
 |ptr r=>exact h
 |sl r l c=>exact h
 |clo f rs=>exact cloR.imp h hy rfl λ_ _ _ _ _ h=>h
def VR.imp{O I':Map}{w w':World}{x:AV}{v:Value}(h:VR O w x v)(hc:∀c u,inAV c x->CR O w c u->CR I' w' c u):VR I' w' x v:=by
 cases x with
 |c x=>exact hc _ _ rfl h
 |agg xs=>obtain⟨arr,e,h1,h2⟩:=h;exact⟨arr,e,h1,λi hi=>let ⟨u,h3,h4⟩:=h2 i hi;⟨u,h3,hc _ _ (A9 hi) h4⟩⟩
 |tup xs=>
  obtain⟨arr,e,h1,h2⟩:=h;refine⟨arr,e,h1,λi hi=> ?_⟩;obtain⟨u,h3,h4⟩:=h2 i hi;refine⟨u,h3,?_⟩;have hmem:=A9 hi;generalize xs[i]=y at h4 hmem
  cases y with
  |inl c=>exact hc _ _ ⟨_,hmem,rfl⟩ h4
  |inr cs=>obtain⟨arr',e',h5,h6⟩:=h4;exact⟨arr',e',h5,λj hj=>let ⟨u',h7,h8⟩:=h6 j hj;⟨u',h7,hc _ _ ⟨_,hmem,A9 hj⟩ h8⟩⟩
def VR.wx{O:Map}{w:World}{x:AV}{v:Value}{e:Ext}(h:VR O w x v)(hy:e.yv=O.ex.yv):VR (O.wx e) w x v:=h.imp λ_ _ _ h=>h.wx hy
def HR.imp{O:Map}{M:QA}{w:World}{e:Ext}(h:HR O M w)(hc:∀o∈M,∀c∈o.cs,∀u,CR O w c u->CR (O.wx e) w c u):HR (O.wx e) M w where
 obj:=λid s hs=>by
  obtain⟨o,h1,h2,h3,h4⟩:=h.obj id s hs;refine⟨o,h1,h2,h3,?_⟩
  cases hl:s.loc with
  |none=>rw[hl]at h4;exact h4
  |some l=>rw[hl]at h4;obtain⟨h5,h6,h7⟩:=h4;exact⟨h5,h6,λi hi=>let ⟨v,h8,h9⟩:=h7 i hi;⟨v,h8,hc o (BX h1) _ (A9 hi) _ h9⟩⟩
 inj:=h.inj
 resRow:=h.resRow
 resNo:=h.resNo
def HR.wx{O:Map}{M:QA}{w:World}{e:Ext}(h:HR O M w)(hy:e.yv=O.ex.yv):HR (O.wx e) M w:=h.imp λ_ _ _ _ _ hc=>hc.wx hy
def Step.wx{O I':Map}{M S':QA}{w w':World}{e:Ext}(h:Step O M w I' S' w'):Step (O.wx e) M w (I'.wx e) S' w':=
 ⟨h.len,h.size,h.os,h.out,h.keep,h.none,h.new,h.res,rfl,h.resKeep,h.frame⟩
def Step.heap{O I':Map}{M τ S':QA}{w w':World}(hl:τ.length=M.length)(h:Step O M w I' S' w'):Step O τ w I' S' w':=
 ⟨hl▸h.len,h.size,h.os,h.out,h.keep,hl▸h.none,h.new,h.res,h.ex,h.resKeep,h.frame⟩
def HR.put{O:Map}{M:QA}{w:World}{l:Nat}{o0:Go.Obj}(o:Go.Obj)(h:HR O M w)(hn:noRow o0)(hl:w.heap[l]? =some o0)(hm:∀es c,o0≠.map es c:=by intro _ _ e;cases e):HR O M (w.putObj l o)/\∀v u,VR O w v u->VR O (w.putObj l o) v u:=
 h.other λb hd=>XS λe=>by
  subst e;rcases hd with ⟨x,y,z,hb⟩|⟨x,y,hb⟩<;>rw[hl]at hb<;>injection hb with hb
  ·exact hn _ _ _ hb
  ·exact hm _ _ hb
def HR.al{O:Map}{M:QA}{w:World}(o:Go.Obj)(h:HR O M w):HR O M (w.alloc o)/\∀v u,VR O w v u->VR O (w.alloc o) v u:=
 h.other λb hb=>by have:=hb.lt;show(w.heap.push o)[b]? =_;rw[Ba,AK (by omega)]
def Step.put{I0 O:Map}{S0 M:QA}{w0 w:World}{l:Nat}{o:Go.Obj}(h0:HR I0 S0 w0)(h:Step I0 S0 w0 O M w)(hl:w0.heap.size<=l):Step I0 S0 w0 O M (w.putObj l o) where
 len:=h.len
 size:=by rw[World.putObj_size];exact h.size
 os:=h.os
 out:=h.out
 keep:=h.keep
 none:=h.none
 new:=h.new
 res:=h.res
 ex:=h.ex
 resKeep:=λb hb=>by rw[XS (by have:=(h0.resRow b hb).lt;omega)];exact h.resKeep b hb
 frame:=λb hb hu=>by rw[XS (by omega)];exact h.frame b hb hu
def Step.al{I0 O:Map}{S0 M:QA}{w0 w:World}{o:Go.Obj}(h0:HR I0 S0 w0)(h:Step I0 S0 w0 O M w):Step I0 S0 w0 O M (w.alloc o):=by
 have hg:∀b,b<w.heap.size->(w.alloc o).heap[b]? =w.heap[b]? :=λb hb=>by show(w.heap.push o)[b]? =_;rw[Ba,AK (by omega)]
 exact {
   len:=h.len
   size:=by rw[Am];exact Nat.le_succ_of_le h.size
   os:=h.os
   out:=h.out
   keep:=h.keep
   none:=h.none
   new:=h.new
   res:=h.res
   ex:=h.ex
   resKeep:=λb hb=>by rw[hg b (Bl (h0.resRow b hb).lt h.size)];exact h.resKeep b hb
   frame:=λb hb hu=>by rw[hg b (Bl hb h.size)];exact h.frame b hb hu }
def Xz.put{S:List (Nat×Go.Obj)}{w:World}{l:Nat}{o:Go.Obj}(h:Xz S w)(hl:∀p∈S,p.1≠l):Xz S (w.putObj l o):=λp hp=>⟨(h p hp).1,(XS (hl p hp)).trans (h p hp).2⟩
def Xz.al{S:List (Nat×Go.Obj)}{w:World}{o:Go.Obj}(h:Xz S w):Xz S (w.alloc o):=λp hp=>⟨(h p hp).1,by
 have:=h.lt p hp;show(w.heap.push o)[p.1]? =_;rw[Ba,AK (by omega)];exact(h p hp).2⟩
def Marks.put{n:Nat}{w:World}{ms:List Deferred}{l:Nat}{o:Go.Obj}(h:Marks n w ms)(hl:∀ds,w.heap[l]? ≠some (.deferred ds)):Marks n (w.putObj l o) ms:=
 ⟨λd hd=>by
  obtain⟨b,h1,h2,h3⟩:=h.1 d hd;exact⟨b,h1,h2,(XS λe=>hl _ (e▸h3)).trans h3⟩,h.2⟩
def Marks.al{n:Nat}{w:World}{ms:List Deferred}{o:Go.Obj}(h:Marks n w ms):Marks n (w.alloc o) ms:=
 ⟨λd hd=>by
  obtain⟨b,h1,h2,h3⟩:=h.1 d hd;have:=(A8.1 h3).1;refine⟨b,h1,h2,?_⟩;show(w.heap.push o)[b]? =_;rw[Ba,AK (by omega)];exact h3,h.2⟩
def Ka(P:Program)(N n0:Nat)(A B:Code)(r:QB)(M:QA)(Q:Exit->QB->QA->Prop):Prop:=
 ∀l,JQ P N (some l) n0 none A r M λe r' S'=>e=.normal/\∃r'',WR r' r''/\r''.get GH=none/\JQ P N (some l) n0 none B r'' S' Q
def Ka.mono{P:Program}{N n0:Nat}{A B:Code}{r:QB}{M:QA}{Q Q':Exit->QB->QA->Prop}(h:Ka P N n0 A B r M Q)(hq:∀e r M,Q e r M->Q' e r M):Ka P N n0 A B r M Q':=
 λl=>(h l).mono λ_ _ _ ⟨h1,r'',h2,h3,h4⟩=>⟨h1,r'',h2,h3,h4.mono hq⟩
section
variable {P:Program}{N:Nat}{ro:Option Nat}{n0:Nat}
def Step.other{I0 O:Map}{S0 M:QA}{w0 w w':World}(h0:HR I0 S0 w0)(h:Step I0 S0 w0 O M w)(hb:∀b,b<w0.heap.size->w'.heap[b]? =w.heap[b]?)(hsz:w'.heap.size=w.heap.size)(hos:w'.os=w.os)(hout:w'.output=w.output):Step I0 S0 w0 O M w' where
 len:=h.len
 size:=by rw[hsz];exact h.size
 os:=hos.trans h.os
 out:=hout.trans h.out
 keep:=h.keep
 none:=h.none
 new:=h.new
 res:=h.res
 ex:=h.ex
 resKeep:=λb hr=>(hb b (h0.resRow b hr).lt).trans (h.resKeep b hr)
 frame:=λb hlt hu=>(hb b hlt).trans (h.frame b hlt hu)
end
end Go.Abs
