/- A part of the proof. -/
import Derived.Test.YtpbplpgfloaaiaaGreatDoorXS2QMc
set_option linter.all false
namespace Go.Abs
variable [Gl]
def Yc:Obj:={ cs:=[.t (.imm [.int .u8 0] 1 (some 0))],es:=1 }
section
variable {P:Program}{N:Nat}{ro:Option Nat}
def wait_none{O:Map}{τ:QA}{w:World}{k:Nat}(hh:HR O τ w)(h:τ[k]? =some Yc):O k=none:=by
 cases hk:O k with
 |none=>rfl
 |some s=>
  exfalso;obtain⟨o,h1,h2⟩:=hh.obj k s hk;rw[h]at h1;injection h1 with h1;subst h1;have h3:=h2.2.2
  cases hl:s.loc with
  |none=>rw[hl]at h3;cases h3
  |some l=>
   rw[hl]at h3;obtain⟨v,_,h5⟩:=h3.2.2 0 (by decide);have h6:TR O.un w (.imm [.int .u8 0] 1 (some 0)) v:=h5
   cases h6 with
   |imm cs len cap b off c f _ _ hc hle=>have:c=0:=hc;omega
def VZ{m k n:Nat}{cap:Option Nat}{dst:Option Nat}{r:QB}{τ:QA}{o:Obj}(hm:m<=k)(hw:τ[k]? =some Yc)(ho:∀c∈o.cs,∃t,c=.t t):
   GhD N m r τ (r.JM dst (some (.c (.sl ⟨τ.length,0,0⟩ n cap)))) (τ++[o]) (r.JM dst (some (.c (.sl ⟨k,0,0⟩ n cap)))) (τ.set k o):=by
 intro i₁ w₁ a₁ hh1 hr1 O w a hh hr hs;have hkl:k<τ.length:=(AD.1 hw).1;have hk1:i₁ k=none:=wait_none hh1 hw;have HKI:O k=none:=hs.none k hkl hk1;generalize HI':(⟨λid=>if id=k then O τ.length else if id=τ.length then none else O id,O.res,O.ex⟩:Map)=I';have e1:I' k=O τ.length:=by subst HI';simp
 have e2:∀id,id≠k->id≠τ.length->I' id=O id:=λid h1 h2=>by subst HI';simp[h1,h2]
 have e3:I' τ.length=none:=by subst HI';simp[show¬τ.length=k by omega]
 have e4:I'.res=O.res:=by subst HI';rfl
 have e4x:I'.ex=O.ex:=by subst HI';rfl
 have back:∀id s,I' id=some s->∃id',O id'=some s/\((id=k/\id'=τ.length)\/(id≠k/\id≠τ.length/\id'=id)):=λid s h=>by
   by_cases h1:id=k
   · subst h1;rw[e1]at h;exact⟨_,h,.inl ⟨rfl,rfl⟩⟩
   · by_cases h2:id=τ.length
     · subst h2;rw[e3]at h;cases h
     · rw[e2 id h1 h2]at h;exact⟨id,h,.inr ⟨h1,h2,rfl⟩⟩
 have un:∀b,O.un b->I'.un b:=λb hb hm'=>by
   rcases hm' with ⟨id,s,l,h1,h2,h3⟩|hres
   · obtain⟨id',h4,_⟩:=back id s h1
     exact hb (.inl ⟨id',s,l,h4,h2,h3⟩)
   · exact hb (.inr (e4▸hres))
 have ref:∀{rf:Ref} {ok ok':Jv->Prop},JU i₁ rf ok'->JU O rf ok->JU I' rf ok:=λ{rf ok ok'} ⟨s1,h1,_⟩ ⟨s,h2,h3⟩=>by have hlt:=hh1.lt h1;have hne:rf.id≠k:=λe=>(by rw[e,hk1]at h1;cases h1);exact⟨s,by rw[e2 _ hne (by omega)];exact h2,h3⟩
 have crx:∀{c:Cell} {v v₁:Value},CR i₁ w₁ c v₁->CR O w c v->CR I' w c v:=λ{c v v₁} hp h=>by
   cases c with
   |t x=>exact TR.mono h λb hb _=>⟨un b hb,rfl⟩
   |ptr rf=>obtain⟨_,_,p1⟩:=hp;obtain⟨a',e,h1⟩:=h;exact⟨a',e,ref p1 h1⟩
   |sl rf l c=>obtain⟨_,_,_,_,p1⟩:=hp;obtain⟨a',c',e,h0,h1⟩:=h;exact⟨a',c',e,h0,ref p1 h1⟩
   |clo f rs=>refine cloR.imp h (by rw[e4x]) rfl λhf i hi _ a' h4=> ?_;obtain⟨_,_,_,p1⟩:=cloR.no hp hf;obtain⟨_,_,p2⟩:=p1 i hi;exact ref p2 h4
 have agx:∀{xs:List Cell} {v v₁:Value},XF i₁ w₁ xs v₁->XF O w xs v->XF I' w xs v:=λ{xs v v₁} hp h=>by obtain⟨_,_,_,p2⟩:=hp;obtain⟨arr,e,h1,h2⟩:=h;refine⟨arr,e,h1,λi hi=> ?_⟩;obtain⟨_,_,p4⟩:=p2 i hi;obtain⟨u,h3,h4⟩:=h2 i hi;exact⟨u,h3,crx p4 h4⟩
 have vrx:∀{x:AV} {v v₁:Value},VR i₁ w₁ x v₁->VR O w x v->VR I' w x v:=λ{x v v₁} hp h=>by
   cases x with
   |c x=>exact crx hp h
   |agg xs=>exact agx hp h
   |tup xs=>
     obtain⟨_,_,_,p2⟩:=hp;obtain⟨arr,e,h1,h2⟩:=h;refine⟨arr,e,h1,λi hi=> ?_⟩;obtain⟨_,_,p4⟩:=p2 i hi;obtain⟨u,h3,h4⟩:=h2 i hi;refine⟨u,h3,?_⟩;generalize xs[i]=y at p4 h4⊢
     cases y with
     |inl x=>exact crx p4 h4
     |inr xs=>exact agx p4 h4
 refine⟨I',⟨λid s h=> ?_,λid id' s s' l l' h1 h2 h3 h4 h5=> ?_,λb hb=>hh.resRow b (e4▸hb),λid s l h1 h2 h3=> ?_⟩,⟨hr.size,hr.low,λt x hx=> ?_,hr.gl.mono λb hu _=>⟨un b hu,rfl⟩⟩,λIS SS ws hss hms hst=> ?_⟩
 · obtain⟨id',h1,⟨rfl,rfl⟩|⟨h2,h3,rfl⟩⟩:=back id s h
   · obtain⟨o',h4,h5⟩:=hh.obj _ s h1
     have:o'=o:=(by simpa using h4.symm);subst this;refine⟨o',by simp[hkl],h5.1,h5.2.1,?_⟩;have h6:=h5.2.2
     cases hl:s.loc with
     |none=>rw[hl]at h6;exact h6
     |some l=>rw[hl]at h6;refine⟨h6.1,h6.2.1,λi hi=> ?_⟩;obtain⟨v,h7,h8⟩:=h6.2.2 i hi;refine⟨v,h7,?_⟩;obtain⟨t,ht⟩:=ho _ (A9 hi);rw[ht]at h8⊢;exact TR.mono h8 λb hb _=>⟨un b hb,rfl⟩
   · obtain⟨o',h4,h5⟩:=hh.obj id' s h1
     have hlt:id'<τ.length:=(by have:=hh.lt h1;simp at this;omega);rw[AL hlt]at h4;refine⟨o',by rw[Bm (Cf h2)];exact h4,h5.1,h5.2.1,?_⟩;have h6:=h5.2.2
     cases hp:i₁ id' with
     |none=>rw[hs.none id' hlt hp]at h1;cases h1
     |some s1=>
       obtain⟨o'',p1,p2⟩:=hh1.obj id' s1 hp;rw[h4]at p1;injection p1 with p1;subst p1;have p3:=p2.2.2
       cases hl:s.loc with
       |none=>rw[hl]at h6;exact h6
       |some l=>
         rw[hl]at h6;refine⟨h6.1,h6.2.1,λi hi=> ?_⟩;obtain⟨v,h7,h8⟩:=h6.2.2 i hi;refine⟨v,h7,?_⟩
         cases hl1:s1.loc with
         |none=>rw[hl1]at p3;rw[p3]at hi;exact absurd hi (by simp)
         |some l1=>rw[hl1]at p3;obtain⟨v1,_,p5⟩:=p3.2.2 i hi;exact crx p5 h8
 · obtain⟨i1,g1,q1⟩:=back id s h1
   obtain⟨i2,g2,q2⟩:=back id' s' h2;have:=hh.inj i1 i2 s s' l l' g1 g2 h3 h4 h5;omega
 · obtain⟨i1,g1,_⟩:=back id s h1
   exact hh.resNo i1 s l g1 h2 (e4▸h3)
 · have elk:lk I' w a t=lk O w a t:=by unfold lk;rw[e4x]
   rw[elk];by_cases hd:dst=some t
   · subst hd
     have hx':x=.c (.sl ⟨k,0,0⟩ n cap):=(by simp only[QB.JM,QB.put,QB.Qk,Kn]at hx;exact hx.symm);subst hx';have:=hr.get t (.c (.sl ⟨τ.length,0,0⟩ n cap)) (by simp[QB.JM,QB.put,QB.Qk]);obtain⟨a',c',e,h0,⟨s,h1,h2⟩⟩:=this;exact⟨a',c',e,h0,⟨s,by rw[show(⟨k,0,0⟩:Ref).id=k from rfl,e1];exact h1,h2⟩⟩
   · have hx2:r.get t=some x:=by rw[Zo _ hd]at hx;exact hx
     have hx3:(r.JM dst (some (.c (.sl ⟨τ.length,0,0⟩ n cap)))).get t=some x:=(by rw[Zo _ hd];exact hx2);exact vrx (hr1.get t x hx2) (hr.get t x hx3)
 · have full:=hst.trans hs
   exact {
     len:=by rw[Ap];exact hst.len
     size:=full.size
     os:=full.os
     out:=full.out
     keep:=λid s h=>by have:=hss.lt h;have:=hst.len;rw[e2 id (by omega) (by omega)];exact full.keep id s h
     none:=λid h1 h2=>by have:=hst.len;rw[e2 id (by omega) (by omega)];exact full.none id h1 h2
     new:=λid s' l' h1 h2=>by obtain⟨i1,g1,_⟩:=back id s' h1;exact full.new i1 s' l' g1 h2
     res:=e4.trans full.res
     ex:=e4x.trans full.ex
     resKeep:=full.resKeep
     frame:=full.frame }
def mvR(L k:Nat)(r:Ref):Ref:={ r with id:=if L<=r.id then k+(r.id - L) else r.id }
def mvC(L k:Nat):Cell->Cell
 |.t x=>.t x
 |.ptr r=>.ptr (mvR L k r)
 |.sl r l c=>.sl (mvR L k r) l c
 |.clo f rs=>.clo f (rs.map (mvR L k))
def mvP(L k:Nat):Cell⊕List Cell->Cell⊕List Cell
 |.inl x=>.inl (mvC L k x)
 |.inr xs=>.inr (xs.map (mvC L k))
def mvV(L k:Nat):AV->AV
 |.c x=>.c (mvC L k x)
 |.agg xs=>.agg (xs.map (mvC L k))
 |.tup xs=>.tup (xs.map (mvP L k))
def XQ:Nat->List Obj->QA->QA
 |_,[],τ=>τ
 |k,o::os,τ=>XQ (k+1) os (τ.set k o)
def ZS:Nat->Nat->List Nat
 |_,0=>[]
 |q,n+1=>(q+1)::ZS (q+1) n
def Y9{c:Nat}:∀{n q:Nat},c∈ZS q n↔∃i,i<n/\c=q+i+1
 |0,q=>by simp[ZS]
 |n+1,q=>by
  simp only[ZS,AT,Y9 (n:=n)];constructor
  ·rintro(rfl|⟨i,hi,rfl⟩)
   ·exact⟨0,by omega,by omega⟩
   ·exact⟨i+1,by omega,by omega⟩
  ·rintro⟨i,hi,rfl⟩
   cases i with
   |zero=>exact .inl (by omega)
   |succ i=>exact .inr ⟨i,by omega,by omega⟩
def Z1:∀(os:List Obj) (k:Nat) (τ:QA),(XQ k os τ).length=τ.length
 |[],_,_=>rfl
 |o::os,k,τ=>by simp[XQ,Z1 os]
def ZT:∀(os:List Obj) (k:Nat) (τ:QA) (id:Nat),(id<k\/k+os.length<=id)->(XQ k os τ)[id]? =τ[id]?
 |[],_,_,_,_=>rfl
 |o::os,k,τ,id,h=>by simp only[As]at h;simp only[XQ];rw[ZT os (k+1) _ id (by omega),Bm (by omega)]
def K3:∀(os:List Obj) (k:Nat) (τ:QA) (i:Nat),k+os.length<=τ.length->i<os.length->(XQ k os τ)[k+i]? =os[i]?
 |[],_,_,_,_,h=>by simp at h
 |o::os,k,τ,0,hl,_=>by simp only[As]at hl;simp only[XQ,BK];rw[ZT os (k+1) _ k (by omega),CW (by omega)];rfl
 |o::os,k,τ,i+1,hl,h=>by simp only[As]at hl h;simp only[XQ];rw[show k+(i+1)=k+1+i by omega,K3 os (k+1) _ i (by rw[Ap];omega) (by omega)];simp
def ghd_moves{m k:Nat}{dst:Option Nat}{r:QB}{τ:QA}{os:List Obj}{x:AV}(hm:m<=k)(hkl:k+os.length<=τ.length)(hw:∀i,i<os.length->τ[k+i]? =some Yc)(ho:∀o∈os,∀c∈o.cs,∃t,c=.t t):
   GhD N m r τ (r.JM dst (some x)) (τ++os) (r.JM dst (some (mvV τ.length k x))) (XQ k os τ):=by
 intro i₁ w₁ a₁ hh1 hr1 O w a hh hr hs;have hk1:∀i,i<os.length->i₁ (k+i)=none:=λi hi=>wait_none hh1 (hw i hi);have HKI:∀i,i<os.length->O (k+i)=none:=λi hi=>hs.none (k+i) (by omega) (hk1 i hi);generalize HI':(⟨λid=>if k<=id/\id<k+os.length then O (τ.length+(id - k)) else if τ.length<=id then none else O id,O.res,O.ex⟩:Map)=I';have e1:∀i,i<os.length->I' (k+i)=O (τ.length+i):=λi hi=>by subst HI';show(if k<=k+i/\k+i<k+os.length then _ else _)=_;rw[AC (by omega),show k+i - k=i by omega]
 have e2:∀id,¬(k<=id/\id<k+os.length)->id<τ.length->I' id=O id:=λid h1 h2=>by subst HI';show(if k<=id/\id<k+os.length then _ else _)=_;rw[AK h1,AK (by omega)]
 have e3:∀id,τ.length<=id->I' id=none:=λid h=>by subst HI';show(if k<=id/\id<k+os.length then _ else _)=_;rw[AK (by omega),AC h]
 have e4:I'.res=O.res:=by subst HI';rfl
 have e4x:I'.ex=O.ex:=by subst HI';rfl
 have back:∀id s,I' id=some s->∃id',O id'=some s/\((∃i,i<os.length/\id=k+i/\id'=τ.length+i)\/(¬(k<=id/\id<k+os.length)/\id<τ.length/\id'=id)):=λid s h=>by
   by_cases h1:k<=id/\id<k+os.length
   · obtain⟨i,rfl⟩:∃i,id=k+i:=⟨id - k,by omega⟩
     rw[e1 i (by omega)]at h;exact⟨_,h,.inl ⟨i,by omega,rfl,rfl⟩⟩
   · by_cases h2:τ.length<=id
     · rw[e3 id h2]at h;cases h
     · rw[e2 id h1 (by omega)]at h;exact⟨id,h,.inr ⟨h1,by omega,rfl⟩⟩
 have un:∀b,O.un b->I'.un b:=λb hb hm'=>by
   rcases hm' with ⟨id,s,l,h1,h2,h3⟩|hres
   · obtain⟨id',h4,_⟩:=back id s h1
     exact hb (.inl ⟨id',s,l,h4,h2,h3⟩)
   · exact hb (.inr (e4▸hres))
 have slot:∀id s,O id=some s->¬(k<=id/\id<k+os.length):=λid s h hc=>by obtain⟨i,rfl⟩:∃i,id=k+i:=⟨id - k,by omega⟩;rw[HKI i (by omega)]at h;cases h
 have ref:∀{rf:Ref} {ok ok':Jv->Prop},JU i₁ rf ok'->JU O rf ok->JU I' rf ok:=λ{rf ok ok'} ⟨s1,h1,_⟩ ⟨s,h2,h3⟩=>
   ⟨s,by rw[e2 _ (slot _ _ h2) (hh1.lt h1)];exact h2,h3⟩
 have refm:∀{rf:Ref} {ok:Jv->Prop},JU O rf ok->JU I' (mvR τ.length k rf) ok:=λ{rf ok} ⟨s,h2,h3⟩=>by
   have hlt:=hh.lt h2;rw[AG]at hlt;refine⟨s,?_,h3⟩;show I' (if τ.length<=rf.id then k+(rf.id - τ.length) else rf.id)=some s;by_cases h:τ.length<=rf.id
   · rw[AC h,e1 _ (by omega),show τ.length+(rf.id - τ.length)=rf.id by omega];exact h2
   · rw[AK h,e2 _ (slot _ _ h2) (by omega)];exact h2
 have crm:∀{c:Cell} {v:Value},CR O w c v->CR I' w (mvC τ.length k c) v:=λ{c v} h=>by
   cases c with
   |t x=>exact TR.mono h λb hb _=>⟨un b hb,rfl⟩
   |ptr rf=>obtain⟨a',e,h1⟩:=h;exact⟨a',e,refm h1⟩
   |sl rf l c=>obtain⟨a',c',e,h0,h1⟩:=h;exact⟨a',c',e,h0,refm h1⟩
   |clo f rs=>refine cloR.imp h (by rw[e4x]) (by simp) λhf i hi hi' a' h4=> ?_;rw[AP];exact refm h4
 have agm:∀{xs:List Cell} {v:Value},XF O w xs v->XF I' w (xs.map (mvC τ.length k)) v:=λ{xs v} h=>by obtain⟨arr,e,h1,h2⟩:=h;refine⟨arr,e,by simpa using h1,λi hi=> ?_⟩;obtain⟨u,h3,h4⟩:=h2 i (by simpa using hi);rw[AP];exact⟨u,h3,crm h4⟩
 have vrm:∀{x:AV} {v:Value},VR O w x v->VR I' w (mvV τ.length k x) v:=λ{x v} h=>by
   cases x with
   |c x=>exact crm h
   |agg xs=>exact agm h
   |tup xs=>
     obtain⟨arr,e,h1,h2⟩:=h;refine⟨arr,e,by simpa using h1,λi hi=> ?_⟩;obtain⟨u,h3,h4⟩:=h2 i (by simpa using hi);refine⟨u,h3,?_⟩;rw[AP];generalize xs[i]'(by simpa using hi)=y at h4⊢
     cases y with
     |inl x=>exact crm h4
     |inr xs=>exact agm h4
 have crx:∀{c:Cell} {v v₁:Value},CR i₁ w₁ c v₁->CR O w c v->CR I' w c v:=λ{c v v₁} hp h=>by
   cases c with
   |t x=>exact TR.mono h λb hb _=>⟨un b hb,rfl⟩
   |ptr rf=>obtain⟨_,_,p1⟩:=hp;obtain⟨a',e,h1⟩:=h;exact⟨a',e,ref p1 h1⟩
   |sl rf l c=>obtain⟨_,_,_,_,p1⟩:=hp;obtain⟨a',c',e,h0,h1⟩:=h;exact⟨a',c',e,h0,ref p1 h1⟩
   |clo f rs=>refine cloR.imp h (by rw[e4x]) rfl λhf i hi _ a' h4=> ?_;obtain⟨_,_,_,p1⟩:=cloR.no hp hf;obtain⟨_,_,p2⟩:=p1 i hi;exact ref p2 h4
 have agx:∀{xs:List Cell} {v v₁:Value},XF i₁ w₁ xs v₁->XF O w xs v->XF I' w xs v:=λ{xs v v₁} hp h=>by obtain⟨_,_,_,p2⟩:=hp;obtain⟨arr,e,h1,h2⟩:=h;refine⟨arr,e,h1,λi hi=> ?_⟩;obtain⟨_,_,p4⟩:=p2 i hi;obtain⟨u,h3,h4⟩:=h2 i hi;exact⟨u,h3,crx p4 h4⟩
 have vrx:∀{x:AV} {v v₁:Value},VR i₁ w₁ x v₁->VR O w x v->VR I' w x v:=λ{x v v₁} hp h=>by
   cases x with
   |c x=>exact crx hp h
   |agg xs=>exact agx hp h
   |tup xs=>
     obtain⟨_,_,_,p2⟩:=hp;obtain⟨arr,e,h1,h2⟩:=h;refine⟨arr,e,h1,λi hi=> ?_⟩;obtain⟨_,_,p4⟩:=p2 i hi;obtain⟨u,h3,h4⟩:=h2 i hi;refine⟨u,h3,?_⟩;generalize xs[i]=y at p4 h4⊢
     cases y with
     |inl x=>exact crx p4 h4
     |inr xs=>exact agx p4 h4
 refine⟨I',⟨λid s h=> ?_,λid id' s s' l l' h1 h2 h3 h4 h5=> ?_,λb hb=>hh.resRow b (e4▸hb),λid s l h1 h2 h3=> ?_⟩,⟨hr.size,hr.low,λt y hx=> ?_,hr.gl.mono λb hu _=>⟨un b hu,rfl⟩⟩,λIS SS ws hss hms hst=> ?_⟩
 · obtain⟨id',h1,⟨i,hi,rfl,rfl⟩|⟨h2,h3,rfl⟩⟩:=back id s h
   · obtain⟨o',h4,h5⟩:=hh.obj _ s h1
     rw[AU (by omega),show τ.length+i - τ.length=i by omega]at h4;refine⟨o',by rw[K3 os k τ i hkl hi];exact h4,h5.1,h5.2.1,?_⟩;have hmem:o'∈os:=Cd.2 ⟨i,h4⟩;have h6:=h5.2.2
     cases hl:s.loc with
     |none=>rw[hl]at h6;exact h6
     |some l=>rw[hl]at h6;refine⟨h6.1,h6.2.1,λi hi=> ?_⟩;obtain⟨v,h7,h8⟩:=h6.2.2 i hi;refine⟨v,h7,?_⟩;obtain⟨t,ht⟩:=ho o' hmem _ (A9 hi);rw[ht]at h8⊢;exact TR.mono h8 λb hb _=>⟨un b hb,rfl⟩
   · obtain⟨o',h4,h5⟩:=hh.obj id' s h1
     rw[AL h3]at h4;refine⟨o',by rw[ZT os k τ id' (by omega)];exact h4,h5.1,h5.2.1,?_⟩;have h6:=h5.2.2
     cases hp:i₁ id' with
     |none=>rw[hs.none id' h3 hp]at h1;cases h1
     |some s1=>
       obtain⟨o'',p1,p2⟩:=hh1.obj id' s1 hp;rw[h4]at p1;injection p1 with p1;subst p1;have p3:=p2.2.2
       cases hl:s.loc with
       |none=>rw[hl]at h6;exact h6
       |some l=>
         rw[hl]at h6;refine⟨h6.1,h6.2.1,λi hi=> ?_⟩;obtain⟨v,h7,h8⟩:=h6.2.2 i hi;refine⟨v,h7,?_⟩
         cases hl1:s1.loc with
         |none=>rw[hl1]at p3;rw[p3]at hi;exact absurd hi (by simp)
         |some l1=>rw[hl1]at p3;obtain⟨v1,_,p5⟩:=p3.2.2 i hi;exact crx p5 h8
 · obtain⟨i1,g1,q1⟩:=back id s h1
   obtain⟨i2,g2,q2⟩:=back id' s' h2;have:=hh.inj i1 i2 s s' l l' g1 g2 h3 h4 h5;rcases q1 with ⟨j1,p1,p2,p3⟩|⟨p1,p2,p3⟩<;>rcases q2 with ⟨j2,t1,t2,t3⟩|⟨t1,t2,t3⟩<;>omega
 · obtain⟨i1,g1,_⟩:=back id s h1
   exact hh.resNo i1 s l g1 h2 (e4▸h3)
 · have elk:lk I' w a t=lk O w a t:=by unfold lk;rw[e4x]
   rw[elk];by_cases hd:dst=some t
   · subst hd
     have hx':y=mvV τ.length k x:=(by simp only[QB.JM,QB.put,QB.Qk,Kn]at hx;exact hx.symm);subst hx';exact vrm (hr.get t x (by simp[QB.JM,QB.put,QB.Qk]))
   · have hx2:r.get t=some y:=by rw[Zo _ hd]at hx;exact hx
     have hx3:(r.JM dst (some x)).get t=some y:=(by rw[Zo _ hd];exact hx2);exact vrx (hr1.get t y hx2) (hr.get t y hx3)
 · have full:=hst.trans hs
   have out:∀id,id<SS.length->I' id=O id:=λid hid=>by have:=hst.len;exact e2 id (by omega) (by omega)
   exact {
     len:=by rw[Z1];exact hst.len
     size:=full.size
     os:=full.os
     out:=full.out
     keep:=λid s h=>by rw[out id (hss.lt h)];exact full.keep id s h
     none:=λid h1 h2=>by rw[out id h1];exact full.none id h1 h2
     new:=λid s' l' h1 h2=>by obtain⟨i1,g1,_⟩:=back id s' h1;exact full.new i1 s' l' g1 h2
     res:=e4.trans full.res
     ex:=e4x.trans full.ex
     resKeep:=full.resKeep
     frame:=full.frame }
def StepA(P:Program)(r:QB)(op:Op)(os:List Obj)(k:Nat)(y:AV):Prop:=
 ∀(o:Oper) (r':QB) (τ:QA) (K:Option AV->QA->Prop),o.op=op->(∀x∈op.operands,ev r' x=ev r x)->(∀x,mvV τ.length k x=y->K (some x) (τ++os))->stepOk P r' τ o K
def waitD(P:Program)(m:Nat)(r:QB)(M:QA)(op:Op)(K:Option AV->QA->List Nat->List Nat->Prop):Prop:=match op with
 |.makeSlice t l c=>∃k n cap o u v,m<=k/\M[k]? =some Yc/\ev r l=some u/\ev r c=some v/\(∀τ:QA,JJ P τ t u v=some (.c (.sl ⟨τ.length,0,0⟩ n cap),τ++[o]))/\(∀x∈o.cs,∃t,x=.t t)/\
   K (some (.c (.sl ⟨k,0,0⟩ n cap))) (M.set k o) [k+1] [k+1]
 |op=>∃k os y,m<=k/\0<os.length/\(∀i,i<os.length->M[k+i]? =some Yc)/\(∀o∈os,∀c∈o.cs,∃t,c=.t t)/\StepA P r op os k y/\
   K (some y) (XQ k os M) (ZS k os.length) (ZS k os.length)
def StepN(P:Program)(r:QB)(op:Op)(o:Obj)(n:Nat):Prop:=
 ∀(oo:Oper) (r':QB) (τ:QA) (K:Option AV->QA->Prop),oo.op=op->(∀x∈op.operands,ev r' x=ev r x)->K (some (.c (.sl ⟨τ.length,0,0⟩ n none))) (τ++[o])->
  (o.cs=[]->n=0->K (some (.c (.t (.imm [] 0 (some 0))))) τ)->stepOk P r' τ oo K
def nilD(P:Program)(m:Nat)(d:Option Nat)(r:QB)(M:QA)(op:Op)(K:Option AV->QA->List Nat->List Nat->Prop):Prop:=∃t k o n,d=some t/\m<=k/\M[k]? =some Yc/\(∀x∈o.cs,∃t,x=.t t)/\o.ep=0/\StepN P r op o n/\K (some (.c (.sl ⟨k,0,0⟩ n none))) (M.set k o) [k+1] [k+1]
def ghd_nil{m k t:Nat}{r:QB}{τ:QA}(es:Nat)(hm:m<=k)(hw:τ[k]? =some Yc):
  GhD N m r τ (r.JM (some t) (some (.c (.t (.imm [] 0 (some 0)))))) τ (r.JM (some t) (some (.c (.sl ⟨k,0,0⟩ 0 none)))) (τ.set k { cs:=[],es:=es }):=by
 intro i₁ w₁ a₁ hh1 hr1 O w a hh hr hs;obtain⟨I2,hh2,hr2,hs2⟩:=UD (t:=t) es (by simp[QB.JM,QB.put,QB.Qk]) O w a hh hr;refine VZ (cap:=none) (n:=0) (dst:=some t) (o:={ cs:=[],es:=es }) hm hw (λc hc=>by cases hc) i₁ w₁ a₁ hh1 hr1 I2 w a hh2 (hr2.sub λt' v hv=> ?_) (hs.trans hs2);by_cases e:t=t'
 ·subst e;simp only[QB.JM,QB.put,QB.Qk]at hv⊢;exact hv
 ·simp only[QB.JM,QB.put,QB.J7 _ _ e]at hv⊢;exact hv
def fact_nil{m:Nat}{ops:Array Oper}{o:Oper}{r:QB}{M:QA}(hd:X3 N o.dst=true)(hg:Jn ops r o.guard=some true){K:Option AV->QA->List Nat->List Nat->Prop}(h:nilD P m o.dst r M o.op K):
  ∃res S' rs ws,Yh P N m ops o (r,M) (r.JM o.dst res,S') rs ws/\K res S' rs ws:=by
 obtain⟨t,k,ob,n,hdst,hm,hk,ho,hep,hN,hK⟩:=h;have hkl:k<M.length:=(AD.1 hk).1;have hag:∀(τ:QA) c',c'∉[k+1]->agC (τ.set k ob) τ c':=fun τ c' hc=>by
  cases c' with
  |zero=>exact Ap
  |succ b=>exact Bm λe=>hc (by simp[e])
 refine⟨_,_,_,_,⟨hd,true,hg,hag M,λ_=>⟨_,rfl,λr' τ hr ht=> ?_⟩,λe=>by cases e⟩,hK⟩;have Ht:τ[k]? =some Yc:=(ht (k+1) (by simp)).trans hk;have HTL:k<τ.length:=(AD.1 Ht).1;have hin:∀c',c'∈[k+1]->agC (τ.set k ob) (M.set k ob) c':=λc' hc=>by simp only[AT,Av,Bu]at hc;subst hc;show(τ.set k ob)[k]? =(M.set k ob)[k]?;simp[HTL,hkl]
 refine hN o r' τ _ rfl hr ⟨τ.set k ob,VZ hm Ht ho,λc' hc=>hag τ c' hc,λc' hc=>hin c' hc⟩ λhcs hn=> ?_;subst hn;have hob:ob={ cs:=[],es:=ob.es }:=by obtain⟨cs,es,ep⟩:=ob;simp only at hcs hep;subst hcs;subst hep;rfl
 refine⟨τ.set k ob,?_,λc' hc=>hag τ c' hc,λc' hc=>hin c' hc⟩;rw[hdst];have:=ghd_nil (N:=N) (t:=t) (r:=r') ob.es hm Ht;rw[<-hob]at this;exact this
def fact_wait{m:Nat}{ops:Array Oper}{o:Oper}{r:QB}{M:QA}(hd:X3 N o.dst=true)(hg:Jn ops r o.guard=some true){K:Option AV->QA->List Nat->List Nat->Prop}(h:waitD P m r M o.op K):
  ∃res S' rs ws,Yh P N m ops o (r,M) (r.JM o.dst res,S') rs ws/\K res S' rs ws:=by
 unfold waitD at h;split at h
 ·rename_i t l c hop;obtain⟨k,n,cap,ob,u,v,hm,hk,hu,hv,hE,ho,hK⟩:=h;have hkl:k<M.length:=(AD.1 hk).1;refine⟨_,_,_,_,⟨hd,true,hg,λc' hc=> ?_,λ_=>⟨_,rfl,λr' τ hr ht=> ?_⟩,λe=>by cases e⟩,hK⟩
  ·cases c' with
   |zero=>exact Ap
   |succ b=>exact Bm λe=>hc (by simp[e])
  ·have Ht:τ[k]? =some Yc:=(ht (k+1) (by simp)).trans hk;have HTL:k<τ.length:=(AD.1 Ht).1;have h1:ev r' l=some u:=(hr l (by rw[hop];simp[Op.operands])).trans hu;have h2:ev r' c=some v:=(hr c (by rw[hop];simp[Op.operands])).trans hv;refine Jr (res:=some (.c (.sl ⟨τ.length,0,0⟩ n cap))) (S':=τ++[ob]) (by rw[hop];intro f args ts e;cases e) (Jf (λb xT x y yT e=>by rw[hop]at e;cases e) r') ?_ ⟨τ.set k ob,VZ hm Ht ho,λc' hc=> ?_,λc' hc=> ?_⟩
   ·rw[hop];simp only[opE,h1,h2,hE τ,AI]
   ·cases c' with
    |zero=>exact Ap
    |succ b=>exact Bm λe=>hc (by simp[e])
   ·simp only[AT,Av,Bu]at hc;subst hc;show(τ.set k ob)[k]? =(M.set k ob)[k]?;simp[HTL,hkl]
 ·obtain⟨k,os,y,hm,hpos,hk,ho,hA,hK⟩:=h;have hkl:k+os.length<=M.length:=(by have:=(AD.1 (hk (os.length - 1) (by omega))).1;omega);refine⟨_,_,_,_,⟨hd,true,hg,λc' hc=> ?_,λ_=>⟨_,rfl,λr' τ hr ht=> ?_⟩,λe=>by cases e⟩,hK⟩
  ·cases c' with
   |zero=>exact Z1 _ _ _
   |succ b=>refine ZT os k M b ?_;rw[Y9]at hc;refine CF λhn=>hc ⟨b - k,by omega,by omega⟩
  ·have Ht:∀i,i<os.length->τ[k+i]? =some Yc:=λi hi=>(ht (k+i+1) (Y9.2 ⟨i,hi,rfl⟩)).trans (hk i hi);have HTL:k+os.length<=τ.length:=(by have:=(AD.1 (Ht (os.length - 1) (by omega))).1;omega);refine hA o r' τ _ rfl hr λx hx=>⟨XQ k os τ,?_,λc' hc=> ?_,λc' hc=> ?_⟩
   ·rw[<-hx];exact ghd_moves hm HTL Ht ho
   ·cases c' with
    |zero=>exact Z1 _ _ _
    |succ b=>refine ZT os k τ b ?_;rw[Y9]at hc;refine CF λhn=>hc ⟨b - k,by omega,by omega⟩
   ·obtain⟨i,hi,rfl⟩:=Y9.1 hc;show(XQ k os τ)[k+i]? =(XQ k os M)[k+i]?;rw[K3 os k τ i HTL hi,K3 os k M i hkl hi]
def Wk(P:Program)(N m:Nat):List COp->Nat->List Nat->JB->QB->QA->(K:QB->QA->Prop)->Tag K->Prop
 |[],_,_,_,r,M,K,_=>K r M
 |⟨d,op,g,_⟩::os,j,bef,log,r,M,K,t=>WM (X3 N d) (onGuard (Zz r g)
   (X1 P r M op (λres S' rs ws=>WM (Qx (bef.headD 0) rs ws log) (Wk P N m os (j+1) bef.tail ((j,rs,ws)::log) (r.JM d res) S' K t) ⟨⟩) ⟨⟩\/
    waitD P m r M op (λres S' rs ws=>WM (Qx (bef.headD 0) rs ws log) (Wk P N m os (j+1) bef.tail ((j,rs,ws)::log) (r.JM d res) S' K t) ⟨⟩)\/
    nilD P m d r M op (λres S' rs ws=>WM (Qx (bef.headD 0) rs ws log) (Wk P N m os (j+1) bef.tail ((j,rs,ws)::log) (r.JM d res) S' K t) ⟨⟩))
   (Wk P N m os (j+1) bef.tail ((j,[],[])::log) (r.drop d) M K t) ⟨⟩ ⟨⟩) ⟨⟩
def Ua{mm:Nat}{ops:Array Oper}{bef:List Nat}{K:QB->QA->Prop}:∀(os:List Oper) (cs:List COp) (ks:List (List Nat)),stripOps ops os ks=some cs->∀(k:Nat),os=ops.toList.drop k->
  ∀{r:QB} {M:QA} {log:JB} {t:Tag K},Wk P N mm cs k (bef.drop k) log r M K t->∃S RH WH,Ud P N mm ops bef k ops.size S RH WH/\S k=(r,M)/\K (S (max k ops.size)).1 (S (max k ops.size)).2/\
   (∀x∈log,∀j,k<=j->j<ops.size->(bef.getD j 0).testBit x.1=false->(∀c∈x.2.2,c∉RH j/\c∉WH j)/\∀c∈WH j,c∉x.2.1)
 |[],cs,ks,hst,k,hk,r,M,log,t,h=>by simp only[stripOps,Kn]at hst;subst hst;have hlen:ops.toList.length<=k:=Bw.1 hk.symm;have hle:ops.size<=k:=(by simpa using hlen);exact⟨λ_=>(r,M),λ_=>[],λ_=>[],⟨λj h1 h2=>by omega,λi j h1 h2 h3=>by omega⟩,rfl,h,λx _ j h1 h2=>by omega⟩
 |o::os,cs,ks,hst,k,hk,r,M,log,t,h=>by
  simp only[stripOps]at hst;split at hst
  ·rename_i g cs' hg hcs;injection hst with hst;subst hst;have hlt:k<ops.size:=(by have:(ops.toList.drop k).length=os.length+1:=(by rw[<-hk];rfl);simp at this;omega);have hok:ops[k]? =some o:=(by have:(ops.toList.drop k)[0]? =some o:=(by rw[<-hk];rfl);simpa using this);have hos:os=ops.toList.drop (k+1):=(by have:(ops.toList.drop k).tail=os:=(by rw[<-hk];rfl);rw[<-this];simp);have hhead:(bef.drop k).headD 0=bef.getD k 0:=(by simp[List.headD_eq_head?_getD,List.head?_drop]);have htail:(bef.drop k).tail=bef.drop (k+1):=(by simp);obtain⟨hdst,h⟩:=h;rw[ZQ hg]at h;have fin:∀(r':QB) (S':QA) (rs ws:List Nat),Yh P N mm ops o (r,M) (r',S') rs ws->Qx (bef.getD k 0) rs ws log=true->Wk P N mm cs' (k+1) (bef.drop (k+1)) ((k,rs,ws)::log) r' S' K t->
     ∃S RH WH,Ud P N mm ops bef k ops.size S RH WH/\S k=(r,M)/\K (S (max k ops.size)).1 (S (max k ops.size)).2/\
      (∀x∈log,∀j,k<=j->j<ops.size->(bef.getD j 0).testBit x.1=false->(∀c∈x.2.2,c∉RH j/\c∉WH j)/\∀c∈WH j,c∉x.2.1):=λr' S' rs ws hf hfree hd=>by
    obtain⟨S,RH,WH,hF,hS,hK,hlog⟩:=Ua os cs' _ hcs (k+1) hos hd;refine⟨λj=>if j=k then (r,M) else S j,λj=>if j=k then rs else RH j,λj=>if j=k then ws else WH j,⟨λj h1 h2=> ?_,λi j h1 h2 h3 h4=> ?_⟩,by simp,?_,λx hx j h1 h2 h3=> ?_⟩
    ·by_cases e:j=k
     ·subst e;refine⟨o,hok,?_⟩;simp only[Aq,show¬j+1=j by omega,Al,hS];exact hf
     ·obtain⟨o',h3,h4⟩:=hF.fact j (by omega) h2;refine⟨o',h3,?_⟩;simp only[e,show¬j+1=k by omega,Al];exact h4
    ·have e2:¬j=k:=(by omega);by_cases e:i=k
     ·subst e;simp only[Aq,e2,Al];exact hlog (i,rs,ws) (by simp) j (by omega) h3 h4
     ·simp only[e,e2,Al];exact hF.order i j (by omega) h2 h3 h4
    ·have e1:max k ops.size=max (k+1) ops.size:=(by omega);have e2:¬max (k+1) ops.size=k:=(by omega);simp only[e1,e2,Al];exact hK
    ·by_cases e:j=k
     ·subst e;simp only[Aq];exact KD hfree x hx h3
     ·simp only[e,Al];exact hlog x (by simp[hx]) j (by omega) h2 h3
   unfold onGuard at h;split at h
   ·rename_i b hb
    cases b with
    |true=>
     simp only[Aq]at h;rcases h with h|h|h
     ·obtain⟨res,S',rs,ws,hf,hfree,hd⟩:=fact_step hdst hb h;rw[hhead]at hfree;rw[htail]at hd;exact fin _ _ rs ws hf hfree hd
     ·obtain⟨res,S',rs,ws,hf,hfree,hd⟩:=fact_wait hdst hb h;rw[hhead]at hfree;rw[htail]at hd;exact fin _ _ rs ws hf hfree hd
     ·obtain⟨res,S',rs,ws,hf,hfree,hd⟩:=fact_nil hdst hb h;rw[hhead]at hfree;rw[htail]at hd;exact fin _ _ rs ws hf hfree hd
    |false=>
     simp only[Ab,Al]at h;rw[htail]at h;refine fin _ _ [] [] ⟨hdst,false,hb,λc _=>agC.refl M c,λe=>absurd e (by simp),λ_=>⟨rfl,rfl,rfl⟩⟩ ?_ h;have:∀l:JB,Qx (bef.getD k 0) [] [] l=true:=λl=>by
      induction l with
      |nil=>rfl
      |cons x l ih=>
       obtain⟨i,rs',ws'⟩:=x;have hdn:∀l,XK l []=true:=λl=>by
        induction l with
        |nil=>rfl
        |cons y l ih=>simp[XK,memN,ih]
       simp only[Qx,hdn,ih,XK,AH,CG]
     exact this log
   ·exact h.elim
  ·cases hst
def drawW_ok(hm:P.follows .mixedOrders=true){cs:List COp}{bef:List Nat}{r:QB}{M:QA}(W:QA){Q:Exit->QB->QA->Prop}{t:Tag Q}{t':Tag (Q .normal)}(h:Wk P N M.length cs 0 bef [] r (M++W) (Q .normal) t'):DrawQ P N ro cs bef r M Q t:=by
 intro id ops ks hs hb hd O w a hh hr;subst hb;obtain⟨S,RH,WH,hF,hS,hK,_⟩:=Ua (mm:=M.length) ops.toList cs ks hs 0 (by simp) (log:=[]) (r:=r) (M:=M++W) (t:=t') (bef:=(Region.before ops).toList) (by simpa using h);have hr0:=Step.refl O M w;have hst:Step O M w O (M++W) { w with drawn:=w.drawn+1 }:=⟨by simp,A5 _,rfl,rfl,hr0.keep,hr0.none,hr0.new,rfl,rfl,λ_ _=>rfl,hr0.frame⟩;have hh1:HR O (M++W) w:=⟨λid s h=>by
  obtain⟨o,h1,h2⟩:=hh.obj id s h;exact⟨o,by rw[AL (hh.lt h)];exact h1,h2⟩,hh.inj,hh.resRow,hh.resNo⟩
 have hh':HR O (M++W) { w with drawn:=w.drawn+1 }:=(hh1.other (w':={ w with drawn:=w.drawn+1 }) λ_ _=>rfl).1;refine wpIn_region_any hm ?_;refine draw_go (M:=M) hd hF (by simpa using hK) hh (A5 _) ops.size (List.range ops.size) _ r (M++W) O { w with drawn:=w.drawn+1 } a (by simp) List.nodup_range (λi=> ?_) (by simp) ?_ ?_ hh' (hr.step hh hst) hst rfl
 ·simp only[Bg,Ay];constructor
  ·intro hi;exact⟨hi,by simp[hi]⟩
  ·exact λh=>h.1
 ·intro l;refine .inr ⟨λj hj=> ?_,by rw[hS];exact agree.refl _ _⟩;unfold LD at hj;rw[Ay]at hj;by_cases hi:j<ops.size<;>simp[hi]at hj
 ·intro k i hk;unfold LD at hk;rw[Ay]at hk;by_cases hi:k<ops.size<;>simp[hi]at hk
end
end Go.Abs
