/- A part of the proof. -/
import Derived.Test.YtpbplpgfloaaiaaGreatDoorXS2QAbsO
set_option linter.all false
namespace Go.Abs
variable [Gl]
def X4(is:List Nat)(n k:Nat):Nat:=match is[k]? with
 |some i=>i
 |none=>n+(k - is.length)
def upR(is:List Nat)(n:Nat)(r:Ref):Ref:={ r with id:=X4 is n r.id }
def upC(is:List Nat)(n:Nat):Cell->Cell
 |.t x=>.t x
 |.ptr r=>.ptr (upR is n r)
 |.sl r l c=>.sl (upR is n r) l c
 |.clo f rs=>.clo f (rs.map (upR is n))
def upP(is:List Nat)(n:Nat):Cell⊕List Cell->Cell⊕List Cell
 |.inl x=>.inl (upC is n x)
 |.inr xs=>.inr (xs.map (upC is n))
def upV(is:List Nat)(n:Nat):AV->AV
 |.c x=>.c (upC is n x)
 |.agg xs=>.agg (xs.map (upC is n))
 |.tup xs=>.tup (xs.map (upP is n))
def upO(is:List Nat)(n:Nat)(o:Obj):Obj:={ o with cs:=o.cs.map (upC is n) }
def Jd(f:Obj->Obj):List Nat->QA->QA->QA
 |i::is,o::τ,M=>Jd f is τ (M.set i (f o))
 |_,_,M=>M
def Z9(is:List Nat)(n:Nat)(M τ:QA):QA:=Jd (upO is n) is τ M++(τ.drop is.length).map (upO is n)
def Jz(f:Obj->Obj):∀(is:List Nat) (τ M:QA),(Jd f is τ M).length=M.length
 |[],_,_=>by simp[Jd]
 |_::_,[],_=>by simp[Jd]
 |i::is,o::τ,M=>by simp[Jd,Jz f is τ]
def Kl(f:Obj->Obj):∀(is:List Nat) (τ M:QA) (id:Nat),id∉is->(Jd f is τ M)[id]? =M[id]?
 |[],_,_,_,_=>by simp[Jd]
 |_::_,[],_,_,_=>by simp[Jd]
 |i::is,o::τ,M,id,h=>by simp only[AT,not_or]at h;simp only[Jd];rw[Kl f is τ _ id h.2,Bm (Cf h.1)]
def putAll_at(f:Obj->Obj):∀(is:List Nat) (τ M:QA),is.Nodup->(∀i∈is,i<M.length)->∀(k i:Nat) (o:Obj),is[k]? =some i->τ[k]? =some o->(Jd f is τ M)[i]? =some (f o)
 |[],_,_,_,_,k,i,o,h,_=>by simp at h
 |_::_,[],_,_,_,k,i,o,_,h=>by simp at h
 |j::is,p::τ,M,hn,hl,k,i,o,h1,h2=>by
  simp only[Jd]
  cases k with
  |zero=>simp only[BS,Kn]at h1 h2;subst h1;subst h2;rw[Kl f is τ _ j (List.nodup_cons.1 hn).1,CW (hl j (by simp))]
  |succ k=>simp only[BG]at h1 h2;exact putAll_at f is τ _ (List.nodup_cons.1 hn).2 (λi hi=>by simpa using hl i (by simp[hi])) k i o h1 h2
section
variable {P:Program}{is:List Nat}{M τ A':QA}{O I':Map}{w w':World}
def CR_up{n:Nat}{w:World}(hi:∀k s,O k=some s->I' (X4 is n k)=some s)(hu:∀b,O.un b->I'.un b)(hx:I'.ex=O.ex){c:Cell}{v:Value}(h:CR O w c v):CR I' w (upC is n c) v:=by
 have hr:∀{r:Ref} {ok:Jv->Prop},JU O r ok->JU I' (upR is n r) ok:=λ{r ok} ⟨s,h1,h2,h3⟩=>⟨s,hi _ _ h1,h2,h3⟩
 cases c with
 |t x=>exact TR.mono h λb hb hrow=>⟨hu b hb,rfl⟩
 |ptr r=>obtain⟨a,e,h1⟩:=h;exact⟨a,e,hr h1⟩
 |sl r l c=>obtain⟨a,c,e,h1,h2⟩:=h;exact⟨a,c,e,h1,hr h2⟩
 |clo f rs=>refine cloR.imp (caps':=rs.map (upR is n)) h (by rw[hx]) (by simp) λ_ i hi hi' a h4=> ?_;simp only[AP];exact hr h4
def CR_down{n:Nat}{w:World}(hi:∀k s,I' (X4 is n k)=some s->O k=some s)(hu:∀b,I'.un b->O.un b)(hx:I'.ex=O.ex){c:Cell}{v:Value}(h:CR I' w (upC is n c) v):CR O w c v:=by
 have hr:∀{r:Ref} {ok:Jv->Prop},JU I' (upR is n r) ok->JU O r ok:=λ{r ok} ⟨s,h1,h2,h3⟩=>⟨s,hi _ _ h1,h2,h3⟩
 cases c with
 |t x=>exact TR.mono h λb hb hrow=>⟨hu b hb,rfl⟩
 |ptr r=>obtain⟨a,e,h1⟩:=h;exact⟨a,e,hr h1⟩
 |sl r l c=>obtain⟨a,c,e,h1,h2⟩:=h;exact⟨a,c,e,h1,hr h2⟩
 |clo f rs=>refine cloR.imp (caps:=rs.map (upR is n)) h (by rw[hx]) (by simp) λ_ i hi hi' a h4=> ?_;simp only[AP]at h4;exact hr h4
def Wr{f:Cell->Cell}{w w':World}(h:∀c v,CR O w c v->CR I' w' (f c) v){xs:List Cell}{v:Value}(ha:XF O w xs v):XF I' w' (xs.map f) v:=by obtain⟨arr,e,h1,h2⟩:=ha;refine⟨arr,e,by simpa using h1,λi hi=> ?_⟩;obtain⟨u,h3,h4⟩:=h2 i (by simpa using hi);exact⟨u,h3,by rw[AP];exact h _ _ h4⟩
def KY{f:Cell->Cell}{w w':World}(h:∀c v,CR O w (f c) v->CR I' w' c v){xs:List Cell}{v:Value}(ha:XF O w (xs.map f) v):XF I' w' xs v:=by obtain⟨arr,e,h1,h2⟩:=ha;refine⟨arr,e,by simpa using h1,λi hi=> ?_⟩;obtain⟨u,h3,h4⟩:=h2 i (by simpa using hi);rw[AP]at h4;exact⟨u,h3,h _ _ h4⟩
def VR_up{n:Nat}{w:World}(hi:∀k s,O k=some s->I' (X4 is n k)=some s)(hu:∀b,O.un b->I'.un b)(hx:I'.ex=O.ex){x:AV}{v:Value}(h:VR O w x v):VR I' w (upV is n x) v:=by
 have hc:∀c v,CR O w c v->CR I' w (upC is n c) v:=λc v=>CR_up hi hu hx
 cases x with
 |c x=>exact hc _ _ h
 |agg xs=>exact Wr hc h
 |tup xs=>
  obtain⟨arr,e,h1,h2⟩:=h;refine⟨arr,e,by simpa using h1,λi hi=> ?_⟩;obtain⟨u,h3,h4⟩:=h2 i (by simpa using hi);refine⟨u,h3,?_⟩;rw[AP];generalize xs[i]'(by simpa using hi)=y at h4⊢
  cases y with
  |inl x=>exact hc _ _ h4
  |inr xs=>exact Wr hc h4
def VR_down{n:Nat}{w:World}(hi:∀k s,I' (X4 is n k)=some s->O k=some s)(hu:∀b,I'.un b->O.un b)(hx:I'.ex=O.ex){x:AV}{v:Value}(h:VR I' w (upV is n x) v):VR O w x v:=by
 have hc:∀c v,CR I' w (upC is n c) v->CR O w c v:=λc v=>CR_down hi hu hx
 cases x with
 |c x=>exact hc _ _ h
 |agg xs=>exact KY hc h
 |tup xs=>
  obtain⟨arr,e,h1,h2⟩:=h;refine⟨arr,e,by simpa using h1,λi hi=> ?_⟩;obtain⟨u,h3,h4⟩:=h2 i (by simpa using hi);refine⟨u,h3,?_⟩;rw[AP]at h4;generalize xs[i]'(by simpa using hi)=y at h4⊢
  cases y with
  |inl x=>exact hc _ _ h4
  |inr xs=>exact KY hc h4
def YL{n k i:Nat}(h:is[k]? =some i):X4 is n k=i:=by simp[X4,h]
def WB{n k:Nat}(h:is.length<=k):X4 is n k=n+(k - is.length):=by simp[X4,B5 h]
def Xp(is:List Nat)(O:Map):Map:=⟨λk=>match is[k]? with|some i=>O i|none=>none,λb=>O.res b\/∃id s l,id∉is/\O id=some s/\s.loc=some l/\l.blk=b,O.ex⟩
def ZE(is:List Nat)(n:Nat)(O I':Map):Map:=⟨λid=>if id<n then (if id∈is then I' (is.idxOf id) else O id) else I' (is.length+(id - n)),O.res,O.ex⟩
def Xw{k:Nat}{s:Jv}(h:Xp is O k=some s):∃i,is[k]? =some i/\O i=some s:=by
 simp only[Xp]at h;split at h
 ·rename_i i hi;exact⟨i,hi,h⟩
 ·cases h
def ZK(b:Nat):(Xp is O).mapped b↔O.mapped b:=by
 constructor
 ·rintro(⟨k,s,l,h1,h2,rfl⟩|h|⟨id,s,l,_,h1,h2,rfl⟩)
  ·obtain⟨i,_,h3⟩:=Xw h1;exact .inl ⟨i,s,l,h3,h2,rfl⟩
  ·exact .inr h
  ·exact .inl ⟨id,s,l,h1,h2,rfl⟩
 ·rintro(⟨id,s,l,h1,h2,rfl⟩|h)
  ·by_cases hm:id∈is
   ·obtain⟨k,hk⟩:=Cd.1 hm;exact .inl ⟨k,s,l,by simp only[Xp,hk];exact h1,h2,rfl⟩
   ·exact .inr (.inr ⟨id,s,l,hm,h1,h2,rfl⟩)
  ·exact .inr (.inl h)
def inMap_HR(hn:is.Nodup)(h:HR O M w)(hlen:τ.length=is.length)(hσ:∀(k i:Nat) (o:Obj),is[k]? =some i->τ[k]? =some o->M[i]? =some (upO is M.length o)):HR (Xp is O) τ w where
 obj:=λk s hk=>by
  obtain⟨i,h1,h2⟩:=Xw hk;obtain⟨o,h3,h4⟩:=h.obj i s h2;have hlt:k<τ.length:=(by rw[hlen];exact(AD.1 h1).1);have h5:=hσ k i τ[k] h1 (A4 hlt);rw[h3]at h5;injection h5 with h5;subst h5;refine⟨τ[k],A4 hlt,h4.1,h4.2.1,?_⟩;have h6:=h4.2.2
  cases hl:s.loc with
  |none=>rw[hl]at h6;simpa [upO] using h6
  |some l=>
   rw[hl]at h6;refine⟨h6.1,by simpa [upO] using h6.2.1,λj hj=> ?_⟩;obtain⟨v,h7,h8⟩:=h6.2.2 j (by simpa [upO] using hj);refine⟨v,h7,?_⟩;simp only[upO,AP]at h8;refine CR_down (I':=O) (n:=M.length) (λk s hk=> ?_) (λb hb=>λhm=>hb ((ZK b).1 hm)) rfl h8;by_cases hlt:k<is.length
   ·rw[YL (A4 hlt)]at hk;simp only[Xp,A4 hlt];exact hk
   ·rw[WB (by omega)]at hk;have:=h.lt hk;omega
 inj:=λk k' s s' l l' h1 h2 h3 h4 h5=>by obtain⟨i,h6,h7⟩:=Xw h1;obtain⟨i',h8,h9⟩:=Xw h2;have e:=h.inj i i' s s' l l' h7 h9 h3 h4 h5;subst e;obtain⟨hk,h6⟩:=AD.1 h6;obtain⟨hk',h8⟩:=AD.1 h8;exact(List.getElem_inj hn).1 (h6.trans h8.symm)
 resRow:=λb hb=>by
  rcases hb with hb|⟨id,s,l,_,h1,h2,rfl⟩
  ·exact h.resRow b hb
  ·obtain⟨o,_,_,_,h3⟩:=h.obj id s h1;rw[h2]at h3;obtain⟨⟨c,e,h4,_⟩,_⟩:=h3;exact⟨c,e,_,h4⟩
 resNo:=λk s l h1 h2 hr=>by
  obtain⟨i,h3,h4⟩:=Xw h1;rcases hr with hr|⟨id,s',l',hid,h5,h6,h7⟩
  ·exact h.resNo i s l h4 h2 hr
  ·have:=h.inj id i s' s l' l h5 h4 h6 h2 h7;subst this;exact hid (BX h3)
end
end Go.Abs
namespace Go.Abs
variable [Gl]
section
variable {P:Program}{is:List Nat}{M τ A':QA}{O I':Map}{w w':World}
def U4(hn:is.Nodup)(hl:∀i∈is,i<M.length)(k:Nat):ZE is M.length O I' (X4 is M.length k)=I' k:=by
 by_cases h:k<is.length
 ·have hk:is[k]? =some is[k]:=A4 h;rw[YL hk];have hm:is[k]∈is:=A9 h;have hi:is.idxOf is[k]=k:=List.Nodup.idxOf_getElem hn k h;simp only[ZE,hl _ hm,hm,Aq,hi]
 ·rw[WB (by omega)];have h1:¬M.length+(k - is.length)<M.length:=(by omega);have h2:is.length+(M.length+(k - is.length) - M.length)=k:=(by omega);simp only[ZE,h1,Al,h2]
def out_cases(hn:is.Nodup)(hl:∀i∈is,i<M.length)(id:Nat):(∃k,X4 is M.length k=id/\ZE is M.length O I' id=I' k/\(id<M.length->is[k]? =some id)/\(M.length<=id->k=is.length+(id - M.length)))\/(id<M.length/\id∉is/\ZE is M.length O I' id=O id):=by
 by_cases h:id<M.length
 ·by_cases hm:id∈is
  ·obtain⟨k,hk⟩:=Cd.1 hm;refine .inl ⟨k,YL hk,?_,λ_=>hk,λh'=>by omega⟩;have:=U4 (O:=O) (I':=I') hn hl k;rw[YL hk]at this;exact this
  ·exact .inr ⟨h,hm,by simp only[ZE,h,hm,Aq,Al]⟩
 ·refine .inl ⟨is.length+(id - M.length),?_,?_,λh'=>by omega,λ_=>rfl⟩
  ·rw[WB (by omega)];omega
  ·simp only[ZE,h,Al]
def backH_length:(Z9 is M.length M A').length=M.length+(A'.length - is.length):=by simp[Z9,Jz]
def backH_up(hn:is.Nodup)(hl:∀i∈is,i<M.length){k:Nat}{o:Obj}(ho:A'[k]? =some o):(Z9 is M.length M A')[X4 is M.length k]? =some (upO is M.length o):=by
 by_cases h:k<is.length
 ·have hk:is[k]? =some is[k]:=A4 h;rw[YL hk];unfold Z9;rw[AL (by rw[Jz];exact hl _ (A9 h))];exact putAll_at _ is A' M hn hl k _ o hk ho
 ·rw[WB (by omega)];unfold Z9;rw[AU (by rw[Jz];omega),Jz,BY,C7];have:is.length+(M.length+(k - is.length) - M.length)=k:=(by omega);rw[this,ho];rfl
def backH_not{id:Nat}(h:id∉is)(hlt:id<M.length):(Z9 is M.length M A')[id]? =M[id]? :=by unfold Z9;rw[AL (by rw[Jz];exact hlt)];exact Kl _ is A' M id h
def out_un(hn:is.Nodup)(hl:∀i∈is,i<M.length)(hres:I'.res=(Xp is O).res)(b:Nat)(h:I'.un b):(ZE is M.length O I').un b:=by
 rintro(⟨id,s,l,h1,h2,rfl⟩|hr)
 ·rcases out_cases (O:=O) (I':=I') hn hl id with ⟨k,_,h3,_⟩|⟨_,h3,h4⟩
  ·rw[h3]at h1;exact h (.inl ⟨k,s,l,h1,h2,rfl⟩)
  ·rw[h4]at h1;exact h (.inr (by rw[hres];exact .inr ⟨id,s,l,h3,h1,h2,rfl⟩))
 ·exact h (.inr (by rw[hres];exact .inl hr))
def out_step(hlen:τ.length=is.length)(hn:is.Nodup)(hl:∀i∈is,i<M.length)(hh:HR O M w)(hs:Step (Xp is O) τ w I' A' w'):Step O M w (ZE is M.length O I') (Z9 is M.length M A') w' where
 len:=by rw[backH_length];omega
 size:=hs.size
 os:=hs.os
 out:=hs.out
 keep:=λid s h=>by
  have hlt:=hh.lt h;rcases out_cases (O:=O) (I':=I') hn hl id with ⟨k,_,h3,h4,_⟩|⟨_,_,h4⟩
  ·have:Xp is O k=some s:=(by simp only[Xp,h4 hlt];exact h);obtain⟨s',h5,h6⟩:=hs.keep k s this;exact⟨s',by rw[h3];exact h5,h6⟩
  ·exact⟨s,by rw[h4];exact h,A5 _,λ_=>rfl⟩
 none:=λid hlt h=>by
  rcases out_cases (O:=O) (I':=I') hn hl id with ⟨k,_,h3,h4,_⟩|⟨_,_,h4⟩
  ·have hk:=h4 hlt;have hkt:k<τ.length:=(by rw[hlen];exact(AD.1 hk).1);have:Xp is O k=none:=(by simp only[Xp,hk];exact h);rw[h3];exact hs.none k hkt this
  ·rw[h4];exact h
 new:=λid s' l' h1 h2=>by
  rcases out_cases (O:=O) (I':=I') hn hl id with ⟨k,_,h3,_⟩|⟨_,_,h4⟩
  ·rw[h3]at h1;rcases hs.new k s' l' h1 h2 with h5|⟨k',s,l,h5,h6,h7⟩
   ·exact .inl h5
   ·obtain⟨i,_,h8⟩:=Xw h5;exact .inr ⟨i,s,l,h8,h6,h7⟩
  ·rw[h4]at h1;exact .inr ⟨id,s',l',h1,h2,rfl⟩
 res:=rfl
 ex:=rfl
 resKeep:=λb hb=>hs.resKeep b (.inl hb)
 frame:=λb hb hu=>hs.frame b hb λhm=>hu ((ZK b).1 hm)
def out_OR(hn:is.Nodup)(hl:∀i∈is,i<M.length)(hres:I'.res=(Xp is O).res)(hex:I'.ex=(Xp is O).ex){o:Obj}{s:Jv}(h:OR I' w' o s):OR (ZE is M.length O I') w' (upO is M.length o) s:=by
 refine⟨h.1,h.2.1,?_⟩;have h3:=h.2.2
 cases hl':s.loc with
 |none=>rw[hl']at h3;simp[upO,h3]
 |some l=>rw[hl']at h3;refine⟨h3.1,by simpa [upO] using h3.2.1,λj hj=> ?_⟩;obtain⟨v,h7,h8⟩:=h3.2.2 j (by simpa [upO] using hj);refine⟨v,h7,?_⟩;simp only[upO,AP];exact CR_up (λk s hk=>by rw[U4 hn hl];exact hk) (out_un hn hl hres) hex.symm h8
def out_HR(hlen:τ.length=is.length)(hn:is.Nodup)(hl:∀i∈is,i<M.length)(hh:HR O M w)(hs:Step (Xp is O) τ w I' A' w')(hh':HR I' A' w'):HR (ZE is M.length O I') (Z9 is M.length M A') w' where
 obj:=λid s h=>by
  rcases out_cases (O:=O) (I':=I') hn hl id with ⟨k,h2,h3,_⟩|⟨hlt,hm,h4⟩
  ·rw[h3]at h;obtain⟨o,h5,h6⟩:=hh'.obj k s h;refine⟨upO is M.length o,?_,out_OR hn hl hs.res hs.ex h6⟩;rw[<-h2];exact backH_up hn hl h5
  ·rw[h4]at h;obtain⟨o,h5,h6⟩:=hh.obj id s h;refine⟨o,by rw[backH_not hm hlt];exact h5,h6.congr (out_step hlen hn hl hh hs) λl hl'=> ?_⟩;exact hs.resKeep _ (.inr ⟨id,s,l,hm,h,hl',rfl⟩)
 inj:=λid id' s s' l l' h1 h2 h3 h4 h5=>by
  have mix:∀{id id':Nat} {s s':Jv} {l l':Loc} {k:Nat},I' k=some s->s.loc=some l->id'∉is->O id'=some s'->s'.loc=some l'->l.blk=l'.blk->False:=λ{id id' s s' l l' k} h1 h2 h3 h4 h5 h6=>(by refine hh'.resNo k s l h1 h2 ?_;rw[hs.res];exact .inr ⟨id',s',l',h3,h4,h5,h6.symm⟩);rcases out_cases (O:=O) (I':=I') hn hl id with ⟨k,h6,h7,_⟩|⟨_,hm,h7⟩<;>rcases out_cases (O:=O) (I':=I') hn hl id' with ⟨k',h8,h9,_⟩|⟨_,hm',h9⟩
  ·rw[h7]at h1;rw[h9]at h2;have:=hh'.inj k k' s s' l l' h1 h2 h3 h4 h5;rw[<-h6,<-h8,this]
  ·rw[h7]at h1;rw[h9]at h2;exact(mix (id:=id) h1 h3 hm' h2 h4 h5).elim
  ·rw[h7]at h1;rw[h9]at h2;exact(mix (id:=id) h2 h4 hm h1 h3 h5.symm).elim
  ·rw[h7]at h1;rw[h9]at h2;exact hh.inj id id' s s' l l' h1 h2 h3 h4 h5
 resRow:=λb hb=>hh'.resRow b (by rw[hs.res];exact .inl hb)
 resNo:=λid s l h1 h2 hr=>by
  rcases out_cases (O:=O) (I':=I') hn hl id with ⟨k,_,h3,_⟩|⟨_,_,h3⟩
  ·rw[h3]at h1;exact hh'.resNo k s l h1 h2 (by rw[hs.res];exact .inl hr)
  ·rw[h3]at h1;exact hh.resNo id s l h1 h2 hr
def in_VR(hh:HR O M w){x:AV}{v:Value}(h:VR O w (upV is M.length x) v):VR (Xp is O) w x v:=
 VR_down (I':=O) (λk s hk=>by
  by_cases hlt:k<is.length
  ·rw[YL (A4 hlt)]at hk;simp only[Xp,A4 hlt];exact hk
  ·rw[WB (by omega)]at hk;have:=hh.lt hk;omega) (λb hb hm=>hb ((ZK b).1 hm)) rfl h
def KE{f:FuncId}{args args0:List AV}{Q:AV->QA->Prop}(is:List Nat)(hn:is.Nodup)(hlen:τ.length=is.length)(hσ:∀(k i:Nat) (o:Obj),is[k]? =some i->τ[k]? =some o->M[i]? =some (upO is M.length o))
  (hargs:args=args0.map (upV is M.length)) (h:Jw P f args0 τ Q):Jw P f args M λv S'=>∃v0 A',Q v0 A'/\v=upV is M.length v0/\S'=Z9 is M.length M A':=by
 subst hargs;have hl:∀i∈is,i<M.length:=λi hi=>by obtain⟨k,hk⟩:=Cd.1 hi;have hlt:k<τ.length:=(by rw[hlen];exact(AD.1 hk).1);exact(AD.1 (hσ k i τ[k] hk (A4 hlt))).1
 refine⟨h.1,λO w cargs hgl hh ha=>Bt (h.2 (Xp is O) w cargs (hgl.mono λb hu _=>⟨λhm=>hu ((ZK b).1 hm),rfl⟩) (inMap_HR hn hh hlen hσ) ⟨by simpa using ha.1,λi hi=> ?_⟩) ?_⟩
 ·obtain⟨u,h1,h2⟩:=ha.2 i (by simpa using hi);rw[AP]at h2;exact⟨u,h1,in_VR hh h2⟩
 ·rintro e w' ⟨v,A',I',cv,rfl,hq,hv,hh',hs⟩;refine⟨upV is M.length v,Z9 is M.length M A',ZE is M.length O I',cv,rfl,⟨v,A',hq,rfl,rfl⟩,?_,out_HR hlen hn hl hh hs hh',out_step hlen hn hl hh hs⟩;exact VR_up (λk s hk=>by rw[U4 hn hl];exact hk) (out_un hn hl hs.res) hs.ex.symm hv
end
end Go.Abs
namespace Go.Abs
variable [Gl]
def Jj{α β:Type}(f:α->Option β):List α->Option (List β)
 |[]=>some []
 |x::xs=>match f x,Jj f xs with
  |some y,some ys=>some (y::ys)
  |_,_=>none
def JT:Nat->QA->Nat->Cell->Option T
 |_,_,_,.t x=>some x
 |k+1,M,n,.sl r len cap=>if r.id<n then none else match M.at? r with
  |some o=>if r.off+len*o.es<=o.cs.length then (Jj (JT k M n) ((o.cs.drop r.off).take (len*o.es))).map λts=>.imm ts len cap else none
  |none=>none
 |k+1,M,n,.ptr r=>if r.id<n then none else match M.at? r with
  |some o=>(Jj (JT k M n) (o.cs.drop r.off)).map .iptr
  |none=>none
 |k+1,M,n,.clo f rs=>match Nat.beq f YID||Nat.ble BND f with|true=>none|false=>(Jj (λr=>JT k M n (.ptr r)) rs).map λts=>.fn f ts
 |_,_,_,_=>none
def Zf(k:Nat)(M:QA)(n:Nat):Cell->Option Cell
 |.t x=>some (.t x)
 |.ptr r=>if r.id<n then some (.ptr r) else (JT k M n (.ptr r)).map .t
 |.sl r len cap=>if r.id<n then some (.sl r len cap) else (JT k M n (.sl r len cap)).map .t
 |.clo f rs=>if rs.all (λr=>decide (r.id<n)) then some (.clo f rs) else (JT k M n (.clo f rs)).map .t
def frzP(k:Nat)(M:QA)(n:Nat):Cell⊕List Cell->Option (Cell⊕List Cell)
 |.inl x=>(Zf k M n x).map .inl
 |.inr xs=>(Jj (Zf k M n) xs).map .inr
def KK(k:Nat)(M:QA)(n:Nat):AV->Option AV
 |.c x=>(Zf k M n x).map .c
 |.agg xs=>(Jj (Zf k M n) xs).map .agg
 |.tup xs=>(Jj (frzP k M n) xs).map .tup
def frzO(k:Nat)(M:QA)(n:Nat)(o:Obj):Option Obj:=(Jj (Zf k M n) o.cs).map λcs=>{ o with cs:=cs }
def frzH(k:Nat)(M:QA)(n:Nat):Option QA:=Jj (frzO k M n) (M.take n)
def cut(n:Nat)(O:Map):Map:=⟨λid=>if id<n then O id else none,O.res,O.ex⟩
section
variable {k n:Nat}{M S':QA}{O:Map}{w:World}
def Zr{α β:Type}{f:α->Option β}:∀{xs:List α} {ys:List β},Jj f xs=some ys->ys.length=xs.length/\∀i (hi:i<ys.length) (hi':i<xs.length),f xs[i]=some ys[i]
 |[],ys,h=>by simp only[Jj,Kn]at h;subst h;exact⟨rfl,λi hi=>absurd hi (by simp)⟩
 |x::xs,ys,h=>by
  simp only[Jj]at h;split at h
  ·rename_i y ys' h1 h2;injection h with h;subst h;obtain⟨h3,h4⟩:=Zr h2;refine⟨by simp[h3],λi hi hi'=> ?_⟩
   cases i with
   |zero=>simpa using h1
   |succ i=>simpa using h4 i (by simpa using hi) (by simpa using hi')
  ·cases h
def YJ{id:Nat}{s:Jv}(h:cut n O id=some s):id<n/\O id=some s:=by
 simp only[cut]at h;split at h
 ·rename_i hl;exact⟨hl,h⟩
 ·cases h
def cut_un{b:Nat}(h:O.un b):(cut n O).un b:=by
 rintro(⟨id,s,l,h1,h2,rfl⟩|hr)
 ·exact h (.inl ⟨id,s,l,(YJ h1).2,h2,rfl⟩)
 ·exact h (.inr hr)
def cut_freed(h:HR O M w){id:Nat}{s:Jv}{l:Loc}(hid:n<=id)(hs:O id=some s)(hl:s.loc=some l):(cut n O).un l.blk:=by
 rintro(⟨id',s',l',h1,h2,h3⟩|hr)
 ·obtain⟨h4,h5⟩:=YJ h1;have:=h.inj id' id s' s l' l h5 hs h2 hl h3;omega
 ·exact h.resNo id s l hs hl hr
def cut_ref{r:Ref}{ok:Jv->Prop}(hlt:r.id<n)(h:JU O r ok):JU (cut n O) r ok:=by obtain⟨s,h1,h2⟩:=h;exact⟨s,by simp only[cut,hlt,Aq];exact h1,h2⟩
def We(h:HR O M w):∀{k:Nat} {c:Cell} {t:T} {v:Value},CR O w c v->JT k M n c=some t->TR (cut n O).un w t v
 |k,.t x,t,v,hc,hf=>by have:t=x:=(by cases k<;>(simp only[JT,Kn]at hf;exact hf.symm));subst this;exact TR.mono hc λb hb _=>⟨cut_un hb,rfl⟩
 |0,.ptr r,t,v,hc,hf=>by simp[JT]at hf
 |0,.sl r len cap,t,v,hc,hf=>by simp[JT]at hf
 |0,.clo f rs,t,v,hc,hf=>by simp[JT]at hf
 |k+1,.sl r len cap,t,v,hc,hf=>by
  simp only[JT]at hf;split at hf
  ·cases hf
  ·rename_i hid;split at hf
   ·rename_i o ho;split at hf
    ·rename_i hsz;rw[WF]at hf;obtain⟨ts,hts,rfl⟩:=hf;obtain⟨hl1,hl2⟩:=Zr hts;obtain⟨a,c,rfl,h0,href⟩:=hc;obtain⟨s,hs,_,_,hor,hok⟩:=h.ref ho href;obtain⟨h1,h2,h3⟩:=hok
     cases hloc:s.loc with
     |none=>rw[hloc]at h3;obtain⟨rfl,rfl,_⟩:=h3;have:ts=[]:=Au.1 (by rw[hl1];simp);subst this;exact .imm0 cap a 0 h2
     |some l=>rw[hloc]at h3;obtain⟨rfl,h4,h5⟩:=h3;have hrow:=((hor.row hloc).drop r.off).take (len*o.es);have hb:=hor.2.2;rw[hloc]at hb;obtain⟨⟨cells,elem,h6,_⟩,_⟩:=hb;obtain⟨g,hg⟩:∃g:Nat->Value,∀i (hi:i<ts.length),w.cell? ⟨l.blk,l.sh+r.off+i,none⟩=some (g i)/\TR (cut n O).un w ts[i] (g i):=(by refine⟨λi=>(w.cell? ⟨l.blk,l.sh+r.off+i,none⟩).getD undef,λi hi=> ?_⟩;obtain⟨u,h7,h8⟩:=hrow i (by rw[<-hl1];exact hi);simp only[h7,Aj,Ah];exact We h h8 (hl2 i hi (by rw[<-hl1];exact hi)));exact .imm ts len cap l.blk (l.sh+r.off) c g (cut_freed h (by omega) hs hloc) ⟨cells,elem,_,h6⟩ h2 h1 (λi hi=>(hg i hi).1) (λi hi=>(hg i hi).2)
    ·cases hf
   ·cases hf
 |k+1,.ptr r,t,v,hc,hf=>by
  simp only[JT]at hf;split at hf
  ·cases hf
  ·rename_i hid;split at hf
   ·rename_i o ho;rw[WF]at hf;obtain⟨ts,hts,rfl⟩:=hf;obtain⟨hl1,hl2⟩:=Zr hts;obtain⟨a,rfl,href⟩:=hc;obtain⟨s,hs,_,_,hor,l,hloc,e⟩:=h.ref ho href;injection e with e;subst e;have hrow:=(hor.row hloc).drop r.off;have hb:=hor.2.2;rw[hloc]at hb;obtain⟨⟨cells,elem,h6,_⟩,_⟩:=hb;obtain⟨g,hg⟩:∃g:Nat->Value,∀i (hi:i<ts.length),w.cell? ⟨l.blk,l.sh+r.off+i,none⟩=some (g i)/\TR (cut n O).un w ts[i] (g i):=(by refine⟨λi=>(w.cell? ⟨l.blk,l.sh+r.off+i,none⟩).getD undef,λi hi=> ?_⟩;obtain⟨u,h7,h8⟩:=hrow i (by rw[<-hl1];exact hi);simp only[h7,Aj,Ah];exact We h h8 (hl2 i hi (by rw[<-hl1];exact hi)));exact .iptr ts l.blk (l.sh+r.off) g (cut_freed h (by omega) hs hloc) ⟨cells,elem,_,h6⟩ (λi hi=>(hg i hi).1) (λi hi=>(hg i hi).2)
   ·cases hf
 |k+1,.clo f rs,t,v,hc,hf=>by
  simp only[JT]at hf;split at hf
  ·cases hf
  rename_i hy;rw[WF]at hf;obtain⟨ts,hts,rfl⟩:=hf;obtain⟨hl1,hl2⟩:=Zr hts;obtain⟨arr,rfl,h1,h2⟩:=cloR.no hc (λe=>by subst e;simp at hy);rw[fnv_no (λe=>by rw[CB e,CG]at hy;cases hy)];refine .fn f ts arr (by rw[h1,hl1]) λi hi=> ?_;obtain⟨a,h3,h4⟩:=h2 i (by rw[<-hl1];exact hi);exact We h (c:=.ptr rs[i]) ⟨a,h3,h4⟩ (hl2 i hi (by rw[<-hl1];exact hi))
def Ut(h:HR O M w){c c':Cell}{v:Value}(hc:CR O w c v)(hf:Zf k M n c=some c'):CR (cut n O) w c' v:=by
 have tree:∀{c:Cell},CR O w c v->(JT k M n c).map Cell.t=some c'->CR (cut n O) w c' v:=λ{c} hc hf=>by rw[WF]at hf;obtain⟨t,h1,rfl⟩:=hf;exact We h hc h1
 cases c with
 |t x=>simp only[Zf,Kn]at hf;subst hf;exact TR.mono hc λb hb _=>⟨cut_un hb,rfl⟩
 |ptr r=>
  simp only[Zf]at hf;split at hf
  ·rename_i hlt;injection hf with hf;subst hf;obtain⟨a,e,h1⟩:=hc;exact⟨a,e,cut_ref hlt h1⟩
  ·exact tree hc hf
 |sl r len cap=>
  simp only[Zf]at hf;split at hf
  ·rename_i hlt;injection hf with hf;subst hf;obtain⟨a,c,e,h0,h1⟩:=hc;exact⟨a,c,e,h0,cut_ref hlt h1⟩
  ·exact tree hc hf
 |clo f rs=>
  simp only[Zf]at hf;split at hf
  ·rename_i hlt;injection hf with hf;subst hf;refine cloR.imp hc rfl rfl λ_ i hi _ a h4=>cut_ref ?_ h4;rw[List.all_eq_true]at hlt;simpa using hlt rs[i] (A9 hi)
  ·exact tree hc hf
def frz_agg(h:HR O M w){xs ys:List Cell}{v:Value}(ha:XF O w xs v)(hf:Jj (Zf k M n) xs=some ys):XF (cut n O) w ys v:=by obtain⟨arr,e,h1,h2⟩:=ha;obtain⟨hl1,hl2⟩:=Zr hf;refine⟨arr,e,by rw[h1,hl1],λi hi=> ?_⟩;obtain⟨u,h3,h4⟩:=h2 i (by rw[<-hl1];exact hi);exact⟨u,h3,Ut h h4 (hl2 i hi (by rw[<-hl1];exact hi))⟩
def frzV_ok(h:HR O M w){x y:AV}{v:Value}(hv:VR O w x v)(hf:KK k M n x=some y):VR (cut n O) w y v:=by
 cases x with
 |c x=>simp only[KK,WF]at hf;obtain⟨c,h1,rfl⟩:=hf;exact Ut h hv h1
 |agg xs=>simp only[KK,WF]at hf;obtain⟨c,h1,rfl⟩:=hf;exact frz_agg h hv h1
 |tup xs=>
  simp only[KK,WF]at hf;obtain⟨ys,h1,rfl⟩:=hf;obtain⟨hl1,hl2⟩:=Zr h1;obtain⟨arr,e,h2,h3⟩:=hv;refine⟨arr,e,by rw[h2,hl1],λi hi=> ?_⟩;obtain⟨u,h4,h5⟩:=h3 i (by rw[<-hl1];exact hi);refine⟨u,h4,?_⟩;have h6:=hl2 i hi (by rw[<-hl1];exact hi);generalize xs[i]'(by rw[<-hl1];exact hi)=y at h5 h6
  cases y with
  |inl x=>simp only[frzP,WF]at h6;obtain⟨c,h7,h8⟩:=h6;rw[<-h8];exact Ut h h5 h7
  |inr x=>simp only[frzP,WF]at h6;obtain⟨c,h7,h8⟩:=h6;rw[<-h8];exact frz_agg h h5 h7
def frzH_ok(h:HR O M w)(hf:frzH k M n=some S'):HR (cut n O) S' w where
 obj:=λid s hs=>by
  obtain⟨hlt,hs⟩:=YJ hs;obtain⟨o,h1,h2,h3,h4⟩:=h.obj id s hs;obtain⟨hl1,hl2⟩:=Zr hf;have hlt2:id<M.length:=(AD.1 h1).1;have hlt3:id<(M.take n).length:=(by rw[B6];omega);have hlt4:id<S'.length:=(by rw[hl1];exact hlt3);have h5:=hl2 id hlt4 hlt3;have ho:(M.take n)[id]=o:=(by rw[List.getElem_take];exact(AD.1 h1).2);rw[ho]at h5;simp only[frzO,WF]at h5;obtain⟨cs,h6,h7⟩:=h5;obtain⟨hm1,hm2⟩:=Zr h6;refine⟨S'[id],A4 hlt4,by rw[<-h7];exact h2,by rw[<-h7];exact h3,?_⟩;rw[<-h7]
  cases hl:s.loc with
  |none=>rw[hl]at h4;rw[h4]at hm1;exact Au.1 (by simpa using hm1)
  |some l=>rw[hl]at h4;refine⟨h4.1,by simp only[hm1];exact h4.2.1,λi hi=> ?_⟩;obtain⟨v,h8,h9⟩:=h4.2.2 i (by rw[<-hm1];exact hi);exact⟨v,h8,Ut h h9 (hm2 i hi (by rw[<-hm1];exact hi))⟩
 inj:=λid id' s s' l l' h1 h2 h3 h4 h5=>h.inj id id' s s' l l' (YJ h1).2 (YJ h2).2 h3 h4 h5
 resRow:=h.resRow
 resNo:=λid s l h1 h2=>h.resNo id s l (YJ h1).2 h2
end
end Go.Abs
namespace Go.Abs
variable [Gl]
def J0(N n:Nat)(r:QB)(M:QA)(r':QB)(S':QA):Prop:=
 ∀O w a,HR O M w->JP N O w r a->∃I',HR I' S' w/\JP N I' w r' a/\∀I0 S0 w0,HR I0 S0 w0->S0.length<=n->Step I0 S0 w0 O M w->Step I0 S0 w0 I' S' w
def JE(r r':QB):Prop:=∀t v,r'.get t=some v->r.get t=some v
def FrzR(k:Nat)(M:QA)(n:Nat)(r:QB):QB->Prop
 |[]=>True
 |(t,v)::l=>(∃u,r.get t=some u/\KK k M n u=some v)/\FrzR k M n r l
def SubL(r:QB):QB->Prop
 |[]=>True
 |(t,v)::l=>r.get t=some v/\SubL r l
section
variable {P:Program}{N:Nat}{ro:Option Nat}
def SubL.sub{r:QB}:∀{r':QB},SubL r r'->JE r r'
 |[],_=>λt v h=>by simp[QB.get]at h
 |(k,u)::l,h=>λt v ht=>by
  simp only[QB.get]at ht;split at ht
  ·rename_i e;subst e;injection ht with ht;subst ht;exact h.1
  ·exact SubL.sub h.2 t v ht
def FrzR.get{k:Nat}{M:QA}{n:Nat}{r:QB}:∀{r':QB},FrzR k M n r r'->∀t v,r'.get t=some v->∃u,r.get t=some u/\KK k M n u=some v
 |[],_=>λt v h=>by simp[QB.get]at h
 |(k,u)::l,h=>λt v ht=>by
  simp only[QB.get]at ht;split at ht
  ·rename_i e;subst e;injection ht with ht;subst ht;exact h.1
  ·exact FrzR.get h.2 t v ht
def YK.f{r r':QB}{M S':QA}(h:YK N r M r' S')(n:Nat):J0 N n r M r' S':=λO w a hh hr=>by obtain⟨I',h1,h2,h3⟩:=h O w a hh hr;exact⟨I',h1,h2,λ_ _ _ _ _ hs=>hs.trans h3⟩
def J0.trans{n:Nat}{r r' r'':QB}{M S' S'':QA}(h:J0 N n r M r' S')(h':J0 N n r' S' r'' S''):J0 N n r M r'' S'':=λO w a hh hr=>by obtain⟨I',h1,h2,h3⟩:=h O w a hh hr;obtain⟨i'',h4,h5,h6⟩:=h' I' w a h1 h2;exact⟨i'',h4,h5,λI0 S0 w0 h0 hn hs=>h6 I0 S0 w0 h0 hn (h3 I0 S0 w0 h0 hn hs)⟩
def YK.trans{r r' r'':QB}{M S' S'':QA}(h:YK N r M r' S')(h':YK N r' S' r'' S''):YK N r M r'' S'':=λO w a hh hr=>by obtain⟨I',h1,h2,h3⟩:=h O w a hh hr;obtain⟨i'',h4,h5,h6⟩:=h' I' w a h1 h2;exact⟨i'',h4,h5,h3.trans h6⟩
def YK.sub{r r':QB}{M:QA}(h:JE r r'):YK N r M r' M:=λO w _ hh hr=>⟨O,hh,hr.sub h,Step.refl O M w⟩
def UD{r:QB}{M:QA}{t:Nat}(es:Nat)(h:r.get t=some (.c (.t (.imm [] 0 (some 0))))):YK N r M (r.set t (.c (.sl ⟨M.length,0,0⟩ 0 none))) (M++[{ cs:=[],es:=es }]):=λO w a hh hr=>by
 have hst:Step O M w (O.push M.length ⟨none,es,0⟩) (M++[{ cs:=[],es:=es }]) w:={
   len:=by simp
   size:=A5 _
   os:=rfl
   out:=rfl
   keep:=λid s' hs'=>⟨s',by rw[Map.Qv _ _ (Bx (hh.lt hs'))];exact hs',A5 _,λ_=>rfl⟩
   none:=λid hid hn=>by rw[Map.Qv _ _ (Bx hid)];exact hn
   new:=λid s' l' h1 h2=>by
     by_cases e:id=M.length
     · subst e
       rw[Map.Qm]at h1;injection h1 with h1;subst h1;cases h2
     · rw[Map.Qv _ _ e]at h1
       exact .inr ⟨id,s',l',h1,h2,rfl⟩
   res:=rfl
   ex:=rfl
   resKeep:=λ_ _=>rfl
   frame:=λ_ _ _=>rfl }
 refine⟨O.push M.length ⟨none,es,0⟩,⟨λid s h1=> ?_,λid id' s s' l l' h1 h2 h3 h4 h5=> ?_,hh.resRow,λid s l h1 h2 hr=> ?_⟩,⟨hr.size,hr.low,λt' v hv=> ?_,hr.gl.step hst⟩,hst⟩
 · by_cases e1:id=M.length
   · subst e1
     rw[Map.Qm]at h1;injection h1 with h1;subst h1;exact⟨_,by simp;rfl,rfl,rfl,rfl⟩
   · rw[Map.Qv _ _ e1]at h1
     obtain⟨o',h2,h3⟩:=hh.obj id s h1;exact⟨o',by rw[AL (hh.lt h1)];exact h2,h3.congr hst (λl hl=>rfl)⟩
 · by_cases e1:id=M.length
   · subst e1
     rw[Map.Qm]at h1;injection h1 with h1;subst h1;cases h3
   · by_cases e2:id'=M.length
     · subst e2
       rw[Map.Qm]at h2;injection h2 with h2;subst h2;cases h4
     · rw[Map.Qv _ _ e1]at h1
       rw[Map.Qv _ _ e2]at h2;exact hh.inj id id' s s' l l' h1 h2 h3 h4 h5
 · by_cases e1:id=M.length
   · subst e1
     rw[Map.Qm]at h1;injection h1 with h1;subst h1;cases h2
   · rw[Map.Qv _ _ e1]at h1
     exact hh.resNo id s l h1 h2 hr
 · by_cases e:t=t'
   · subst e
     rw[QB.Qk]at hv;injection hv with hv;subst hv;have hv:=hr.get t _ h
     have ref:∀(ad:Option Addr),JU (O.push M.length ⟨none,es,0⟩) ⟨M.length,0,0⟩ (slOk 0 0 none ad 0):=λad=>
       ⟨⟨none,es,0⟩,Map.Qm _ _ _,A5 _,λ_=>⟨A5 _,trivial,rfl,rfl,rfl⟩⟩
     have elk:lk (O.push M.length ⟨none,es,0⟩) w a t=lk O w a t:=rfl;rw[elk];have hv':TR O.un w (.imm [] 0 (some 0)) (lk O w a t):=hv;generalize lk O w a t=u at hv'
     cases hv' with
     |imm0 cap ad c hc=>have:c=0:=hc;subst this;exact⟨ad,0,rfl,.inl rfl,ref ad⟩
     |imm cs len cap b off c f h1 h2 h3 h4=>have:c=0:=h3;subst this;exact⟨_,0,rfl,.inl rfl,ref _⟩
   · rw[QB.J7 _ _ e]at hv
     exact(hr.get t' v hv).step hst
def Jw.mono{f:FuncId}{args:List AV}{M:QA}{Q Q':AV->QA->Prop}(h:Jw P f args M Q)(hq:∀v S',Q v S'->Q' v S'):Jw P f args M Q':=
 ⟨h.1,λO w cargs hgl hh ha=>Bt (h.2 O w cargs hgl hh ha) λe w' ⟨v,S',I',cv,h1,h2,h3⟩=>⟨v,S',I',cv,h1,hq _ _ h2,h3⟩⟩
def Cell.isT:Cell->Bool
 |.t _=>true
 |_=>false
def AV.isT:AV->Bool
 |.c x=>x.isT
 |.agg xs=>xs.all Cell.isT
 |.tup xs=>xs.all fun|.inl x=>x.isT|.inr xs=>xs.all Cell.isT
def Uz{is:List Nat}{n:Nat}{c:Cell}(h:c.isT=true):upC is n c=c:=by cases c<;>first|rfl|simp[Cell.isT]at h
def Wu{is:List Nat}{n:Nat}:∀{cs:List Cell},cs.all Cell.isT=true->cs.map (upC is n)=cs
 |[],_=>rfl
 |c::cs,h=>by simp only[Ca,AJ]at h;simp[Uz h.1,Wu h.2]
def WA{is:List Nat}{n:Nat}{v:AV}(h:v.isT=true):upV is n v=v:=by
 cases v with
 |c x=>simp only[upV,Uz h]
 |agg xs=>simp only[upV,Wu h]
 |tup xs=>
  simp only[upV];congr 1;have:∀{ys:List (Cell⊕List Cell)},(ys.all fun|.inl x=>x.isT|.inr xs=>xs.all Cell.isT)=true->ys.map (upP is n)=ys:=λ{ys} hy=>by
   induction ys with
   |nil=>rfl
   |cons y ys ih=>
    simp only[Ca,AJ]at hy;rw[AY,ih hy.2]
    cases y with
    |inl x=>simp only[upP,Uz hy.1]
    |inr xs=>simp only[upP,Wu hy.1]
  exact this h
def VV{is:List Nat}{n:Nat}:∀{vs:List AV},vs.all AV.isT=true->vs.map (upV is n)=vs
 |[],_=>rfl
 |v::vs,h=>by simp only[Ca,AJ]at h;simp[WA h.1,VV h.2]
def fn_any{f:FuncId}{args:List AV}{M:QA}{Q:AV->Prop}(ha:args.all AV.isT=true)(h:Jw P f args [] λv S'=>v.isT=true/\S'=[]/\Q v):Jw P f args M λv S'=>Q v/\S'=M:=by have:=KE (M:=M) (args:=args) [] List.nodup_nil rfl (λk i o hk=>by simp at hk) (VV ha).symm h;refine this.mono λv S' ⟨v0,A',⟨h1,h2,h3⟩,h4,h5⟩=> ?_;subst h2;rw[WA h1]at h4;subst h4;exact⟨h3,by rw[h5];simp[Z9,Jd]⟩
end
end Go.Abs
namespace Go.Abs
variable [Gl]
section
variable {P:Program}{N:Nat}{ro:Option Nat}
end
end Go.Abs
namespace Go.Abs
variable [Gl]
section
variable {P:Program}{N:Nat}{ro:Option Nat}
def US(f:Obj->Obj):∀(is:List Nat) (τ M:QA),(∀(k i:Nat) (o:Obj),is[k]? =some i->τ[k]? =some o->M[i]? =some (f o))->Jd f is τ M=M
 |[],_,_,_=>by simp[Jd]
 |_::_,[],_,_=>by simp[Jd]
 |i::is,o::τ,M,h=>by have h0:=h 0 i o rfl rfl;have e:M.set i (f o)=M:=(by obtain⟨hlt,he⟩:=AD.1 h0;rw[<-he];exact List.set_getElem_self hlt);simp only[Jd,e];exact US f is τ M λk i' o' h1 h2=>h (k+1) i' o' h1 h2
def const_read{f:FuncId}{args args0:List AV}{M τ:QA}{v:AV}(is:List Nat)(hn:is.Nodup)(hlen:τ.length=is.length)(hσ:∀(n k i:Nat) (o:Obj),is[k]? =some i->τ[k]? =some o->M[i]? =some (upO is n o))
  (hargs:∀n,args=args0.map (upV is n)) (hv:v.isT=true) (h:Jw P f args0 τ λv' S'=>v'=v/\S'=τ):KH P f args M (is.map (· +1)) v:=λA2 hag=>by
 have HS2:∀(k i:Nat) (o:Obj),is[k]? =some i->τ[k]? =some o->A2[i]? =some (upO is A2.length o):=λk i o h1 h2=>by have:agC A2 M (i+1):=hag _ (BR.2 ⟨i,BX h1,rfl⟩);exact Eq.trans this (hσ A2.length k i o h1 h2)
 refine(KE (M:=A2) is hn hlen HS2 (hargs A2.length) h).mono λv' S' ⟨v0,A',⟨h1,h2⟩,h3,h4⟩=> ?_;subst h1;subst h2;rw[WA hv]at h3;refine⟨h3,?_⟩;rw[h4,Z9,US _ _ _ _ HS2];have:List.drop is.length A'=[]:=Bw.2 (by omega);simp[this]
end
end Go.Abs
namespace Go.Abs
variable [Gl]
section
variable (P:Program)(r:QB)(M:QA)(K:Option AV->QA->List Nat->List Nat->Prop)(tg:Tag K)
def od_store(t:TypeId)(a:Operand)(x:Operand):opD P r M (.store t a x)=(opE P r M (.store t a x)).map λy=>(y.1,y.2,JN (ev r a),JN (ev r a)):=rfl
def od_indexAddr(t:TypeId)(x:Operand)(i:Operand):opD P r M (.indexAddr t x i)=(opE P r M (.indexAddr t x i)).map λx=>(x.1,x.2,[],[]):=rfl
end
end Go.Abs
namespace Go.Abs
variable [Gl]
section
variable {P:Program}
end
end Go.Abs
