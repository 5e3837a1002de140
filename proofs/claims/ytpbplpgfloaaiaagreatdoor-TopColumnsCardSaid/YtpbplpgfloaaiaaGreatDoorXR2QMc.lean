/- A part of the proof. -/
import Derived.Test.YtpbplpgfloaaiaaGreatDoorXR2QAbsO
set_option linter.all false
namespace Go.Abs
variable [Gl]
def Je(is:List Nat)(n k:Nat):Nat:=match is[k]? with
 |some i=>i
 |none=>n+(k - is.length)
def upR(is:List Nat)(n:Nat)(r:Ref):Ref:={ r with id:=Je is n r.id }
def upC(is:List Nat)(n:Nat):Cell->Cell
 |.t x=>.t x
 |.ptr r=>.ptr (upR is n r)
 |.sl r l c=>.sl (upR is n r) l c
 |.clo f rs=>.clo f (rs.map (upR is n))
def upP(is:List Nat)(n:Nat):Cell⊕List Cell->Cell⊕List Cell
 |.inl x=>.inl (upC is n x)
 |.inr xs=>.inr (xs.map (upC is n))
def upV(is:List Nat)(n:Nat):AV->AV
 |.c x=>.c (upC is n x)
 |.agg xs=>.agg (xs.map (upC is n))
 |.tup xs=>.tup (xs.map (upP is n))
def upO(is:List Nat)(n:Nat)(o:Obj):Obj:={ o with cs:=o.cs.map (upC is n) }
def J8(f:Obj->Obj):List Nat->Q1->Q1->Q1
 |i::is,o::τ,J=>J8 f is τ (J.set i (f o))
 |_,_,J=>J
def XW(is:List Nat)(n:Nat)(J τ:Q1):Q1:=J8 (upO is n) is τ J++(τ.drop is.length).map (upO is n)
theorem JO(f:Obj->Obj):∀(is:List Nat) (τ J:Q1),(J8 f is τ J).length=J.length
 |[],_,_=>by simp[J8]
 |_::_,[],_=>by simp[J8]
 |i::is,o::τ,J=>by simp[J8,JO f is τ]
theorem Yy(f:Obj->Obj):∀(is:List Nat) (τ J:Q1) (id:Nat),id∉is->(J8 f is τ J)[id]? =J[id]?
 |[],_,_,_,_=>by simp[J8]
 |_::_,[],_,_,_=>by simp[J8]
 |i::is,o::τ,J,id,h=>by simp only[AW,not_or]at h;simp only[J8];rw[Yy f is τ _ id h.2,BW (Bs h.1)]
theorem putAll_at(f:Obj->Obj):∀(is:List Nat) (τ J:Q1),is.Nodup->(∀i∈is,i<J.length)->∀(k i:Nat) (o:Obj),is[k]? =some i->τ[k]? =some o->(J8 f is τ J)[i]? =some (f o)
 |[],_,_,_,_,k,i,o,h,_=>by simp at h
 |_::_,[],_,_,_,k,i,o,_,h=>by simp at h
 |j::is,p::τ,J,hn,hl,k,i,o,h1,h2=>by
  simp only[J8]
  cases k with
  |zero=>simp only[BA,X3]at h1 h2;subst h1;subst h2;rw[Yy f is τ _ j (List.nodup_cons.1 hn).1,CO (hl j (by simp))]
  |succ k=>simp only[Ax]at h1 h2;exact putAll_at f is τ _ (List.nodup_cons.1 hn).2 (λi hi=>by simpa using hl i (by simp[hi])) k i o h1 h2
section
variable {P:Program}{is:List Nat}{J τ T':Q1}{ι I':Map}{w w':World}
theorem CR_up{n:Nat}{w:World}(hi:∀k s,ι k=some s->I' (Je is n k)=some s)(hu:∀b,ι.un b->I'.un b)(hx:I'.ex=ι.ex){c:Cell}{v:Value}(h:CR ι w c v):CR I' w (upC is n c) v:=by
 have hr:∀{r:Ref} {ok:JH->Prop},J0 ι r ok->J0 I' (upR is n r) ok:=λ{r ok} ⟨s,h1,h2,h3⟩=>⟨s,hi _ _ h1,h2,h3⟩
 cases c with
 |t x=>exact TR.mono h λb hb hrow=>⟨hu b hb,rfl⟩
 |ptr r=>obtain⟨a,e,h1⟩:=h;exact⟨a,e,hr h1⟩
 |sl r l c=>obtain⟨a,c,e,h1,h2⟩:=h;exact⟨a,c,e,h1,hr h2⟩
 |clo f rs=>refine cloR.imp (caps':=rs.map (upR is n)) h (by rw[hx]) (by simp) λ_ i hi hi' a h4=> ?_;simp only[AX];exact hr h4
theorem CR_down{n:Nat}{w:World}(hi:∀k s,I' (Je is n k)=some s->ι k=some s)(hu:∀b,I'.un b->ι.un b)(hx:I'.ex=ι.ex){c:Cell}{v:Value}(h:CR I' w (upC is n c) v):CR ι w c v:=by
 have hr:∀{r:Ref} {ok:JH->Prop},J0 I' (upR is n r) ok->J0 ι r ok:=λ{r ok} ⟨s,h1,h2,h3⟩=>⟨s,hi _ _ h1,h2,h3⟩
 cases c with
 |t x=>exact TR.mono h λb hb hrow=>⟨hu b hb,rfl⟩
 |ptr r=>obtain⟨a,e,h1⟩:=h;exact⟨a,e,hr h1⟩
 |sl r l c=>obtain⟨a,c,e,h1,h2⟩:=h;exact⟨a,c,e,h1,hr h2⟩
 |clo f rs=>refine cloR.imp (caps:=rs.map (upR is n)) h (by rw[hx]) (by simp) λ_ i hi hi' a h4=> ?_;simp only[AX]at h4;exact hr h4
theorem Kq{f:Cell->Cell}{w w':World}(h:∀c v,CR ι w c v->CR I' w' (f c) v){xs:List Cell}{v:Value}(ha:Jf ι w xs v):Jf I' w' (xs.map f) v:=by obtain⟨arr,e,h1,h2⟩:=ha;refine⟨arr,e,by simpa using h1,λi hi=> ?_⟩;obtain⟨u,h3,h4⟩:=h2 i (by simpa using hi);exact⟨u,h3,by rw[AX];exact h _ _ h4⟩
theorem Yo{f:Cell->Cell}{w w':World}(h:∀c v,CR ι w (f c) v->CR I' w' c v){xs:List Cell}{v:Value}(ha:Jf ι w (xs.map f) v):Jf I' w' xs v:=by obtain⟨arr,e,h1,h2⟩:=ha;refine⟨arr,e,by simpa using h1,λi hi=> ?_⟩;obtain⟨u,h3,h4⟩:=h2 i (by simpa using hi);rw[AX]at h4;exact⟨u,h3,h _ _ h4⟩
theorem VR_up{n:Nat}{w:World}(hi:∀k s,ι k=some s->I' (Je is n k)=some s)(hu:∀b,ι.un b->I'.un b)(hx:I'.ex=ι.ex){x:AV}{v:Value}(h:VR ι w x v):VR I' w (upV is n x) v:=by
 have hc:∀c v,CR ι w c v->CR I' w (upC is n c) v:=λc v=>CR_up hi hu hx
 cases x with
 |c x=>exact hc _ _ h
 |agg xs=>exact Kq hc h
 |tup xs=>
  obtain⟨arr,e,h1,h2⟩:=h;refine⟨arr,e,by simpa using h1,λi hi=> ?_⟩;obtain⟨u,h3,h4⟩:=h2 i (by simpa using hi);refine⟨u,h3,?_⟩;rw[AX];generalize xs[i]'(by simpa using hi)=y at h4⊢
  cases y with
  |inl x=>exact hc _ _ h4
  |inr xs=>exact Kq hc h4
theorem VR_down{n:Nat}{w:World}(hi:∀k s,I' (Je is n k)=some s->ι k=some s)(hu:∀b,I'.un b->ι.un b)(hx:I'.ex=ι.ex){x:AV}{v:Value}(h:VR I' w (upV is n x) v):VR ι w x v:=by
 have hc:∀c v,CR I' w (upC is n c) v->CR ι w c v:=λc v=>CR_down hi hu hx
 cases x with
 |c x=>exact hc _ _ h
 |agg xs=>exact Yo hc h
 |tup xs=>
  obtain⟨arr,e,h1,h2⟩:=h;refine⟨arr,e,by simpa using h1,λi hi=> ?_⟩;obtain⟨u,h3,h4⟩:=h2 i (by simpa using hi);refine⟨u,h3,?_⟩;rw[AX]at h4;generalize xs[i]'(by simpa using hi)=y at h4⊢
  cases y with
  |inl x=>exact hc _ _ h4
  |inr xs=>exact Yo hc h4
theorem Zl{n k i:Nat}(h:is[k]? =some i):Je is n k=i:=by simp[Je,h]
theorem KH{n k:Nat}(h:is.length<=k):Je is n k=n+(k - is.length):=by simp[Je,Ab h]
def XD(is:List Nat)(ι:Map):Map:=⟨λk=>match is[k]? with|some i=>ι i|none=>none,λb=>ι.res b\/∃id s l,id∉is/\ι id=some s/\s.loc=some l/\l.blk=b,ι.ex⟩
def XZ(is:List Nat)(n:Nat)(ι I':Map):Map:=⟨λid=>if id<n then (if id∈is then I' (is.idxOf id) else ι id) else I' (is.length+(id - n)),ι.res,ι.ex⟩
theorem XJ{k:Nat}{s:JH}(h:XD is ι k=some s):∃i,is[k]? =some i/\ι i=some s:=by
 simp only[XD]at h;split at h
 ·rename_i i hi;exact⟨i,hi,h⟩
 ·cases h
theorem Xi(b:Nat):(XD is ι).mapped b↔ι.mapped b:=by
 constructor
 ·rintro(⟨k,s,l,h1,h2,rfl⟩|h|⟨id,s,l,_,h1,h2,rfl⟩)
  ·obtain⟨i,_,h3⟩:=XJ h1;exact .inl ⟨i,s,l,h3,h2,rfl⟩
  ·exact .inr h
  ·exact .inl ⟨id,s,l,h1,h2,rfl⟩
 ·rintro(⟨id,s,l,h1,h2,rfl⟩|h)
  ·by_cases hm:id∈is
   ·obtain⟨k,hk⟩:=CW.1 hm;exact .inl ⟨k,s,l,by simp only[XD,hk];exact h1,h2,rfl⟩
   ·exact .inr (.inr ⟨id,s,l,hm,h1,h2,rfl⟩)
  ·exact .inr (.inl h)
theorem inMap_HR(hn:is.Nodup)(h:HR ι J w)(hlen:τ.length=is.length)(Hs:∀(k i:Nat) (o:Obj),is[k]? =some i->τ[k]? =some o->J[i]? =some (upO is J.length o)):HR (XD is ι) τ w where
 obj:=λk s hk=>by
  obtain⟨i,h1,h2⟩:=XJ hk;obtain⟨o,h3,h4⟩:=h.obj i s h2;have hlt:k<τ.length:=(by rw[hlen];exact(AE.1 h1).1);have h5:=Hs k i τ[k] h1 (A4 hlt);rw[h3]at h5;injection h5 with h5;subst h5;refine⟨τ[k],A4 hlt,h4.1,h4.2.1,?_⟩;have h6:=h4.2.2
  cases hl:s.loc with
  |none=>rw[hl]at h6;simpa [upO] using h6
  |some l=>
   rw[hl]at h6;refine⟨h6.1,by simpa [upO] using h6.2.1,λj hj=> ?_⟩;obtain⟨v,h7,h8⟩:=h6.2.2 j (by simpa [upO] using hj);refine⟨v,h7,?_⟩;simp only[upO,AX]at h8;refine CR_down (I':=ι) (n:=J.length) (λk s hk=> ?_) (λb hb=>λhm=>hb ((Xi b).1 hm)) rfl h8;by_cases hlt:k<is.length
   ·rw[Zl (A4 hlt)]at hk;simp only[XD,A4 hlt];exact hk
   ·rw[KH (by omega)]at hk;have:=h.lt hk;omega
 inj:=λk k' s s' l l' h1 h2 h3 h4 h5=>by obtain⟨i,h6,h7⟩:=XJ h1;obtain⟨i',h8,h9⟩:=XJ h2;have e:=h.inj i i' s s' l l' h7 h9 h3 h4 h5;subst e;obtain⟨hk,h6⟩:=AE.1 h6;obtain⟨hk',h8⟩:=AE.1 h8;exact(List.getElem_inj hn).1 (h6.trans h8.symm)
 resRow:=λb hb=>by
  rcases hb with hb|⟨id,s,l,_,h1,h2,rfl⟩
  ·exact h.resRow b hb
  ·obtain⟨o,_,_,_,h3⟩:=h.obj id s h1;rw[h2]at h3;obtain⟨⟨c,e,h4,_⟩,_⟩:=h3;exact⟨c,e,_,h4⟩
 resNo:=λk s l h1 h2 hr=>by
  obtain⟨i,h3,h4⟩:=XJ h1;rcases hr with hr|⟨id,s',l',hid,h5,h6,h7⟩
  ·exact h.resNo i s l h4 h2 hr
  ·have:=h.inj id i s' s l' l h5 h4 h6 h2 h7;subst this;exact hid (BM h3)
end
end Go.Abs
namespace Go.Abs
variable [Gl]
section
variable {P:Program}{is:List Nat}{J τ T':Q1}{ι I':Map}{w w':World}
theorem W2(hn:is.Nodup)(hl:∀i∈is,i<J.length)(k:Nat):XZ is J.length ι I' (Je is J.length k)=I' k:=by
 by_cases h:k<is.length
 ·have hk:is[k]? =some is[k]:=A4 h;rw[Zl hk];have hm:is[k]∈is:=AH h;have hi:is.idxOf is[k]=k:=List.Nodup.idxOf_getElem hn k h;simp only[XZ,hl _ hm,hm,Ag,hi]
 ·rw[KH (by omega)];have h1:¬J.length+(k - is.length)<J.length:=(by omega);have h2:is.length+(J.length+(k - is.length) - J.length)=k:=(by omega);simp only[XZ,h1,Af,h2]
theorem out_cases(hn:is.Nodup)(hl:∀i∈is,i<J.length)(id:Nat):(∃k,Je is J.length k=id/\XZ is J.length ι I' id=I' k/\(id<J.length->is[k]? =some id)/\(J.length<=id->k=is.length+(id - J.length)))\/(id<J.length/\id∉is/\XZ is J.length ι I' id=ι id):=by
 by_cases h:id<J.length
 ·by_cases hm:id∈is
  ·obtain⟨k,hk⟩:=CW.1 hm;refine .inl ⟨k,Zl hk,?_,λ_=>hk,λh'=>by omega⟩;have:=W2 (ι:=ι) (I':=I') hn hl k;rw[Zl hk]at this;exact this
  ·exact .inr ⟨h,hm,by simp only[XZ,h,hm,Ag,Af]⟩
 ·refine .inl ⟨is.length+(id - J.length),?_,?_,λh'=>by omega,λ_=>rfl⟩
  ·rw[KH (by omega)];omega
  ·simp only[XZ,h,Af]
theorem backH_length:(XW is J.length J T').length=J.length+(T'.length - is.length):=by simp[XW,JO]
theorem backH_up(hn:is.Nodup)(hl:∀i∈is,i<J.length){k:Nat}{o:Obj}(ho:T'[k]? =some o):(XW is J.length J T')[Je is J.length k]? =some (upO is J.length o):=by
 by_cases h:k<is.length
 ·have hk:is[k]? =some is[k]:=A4 h;rw[Zl hk];unfold XW;rw[AK (by rw[JO];exact hl _ (AH h))];exact putAll_at _ is T' J hn hl k _ o hk ho
 ·rw[KH (by omega)];unfold XW;rw[AS (by rw[JO];omega),JO,BK,Bt];have:is.length+(J.length+(k - is.length) - J.length)=k:=(by omega);rw[this,ho];rfl
theorem backH_not{id:Nat}(h:id∉is)(hlt:id<J.length):(XW is J.length J T')[id]? =J[id]? :=by unfold XW;rw[AK (by rw[JO];exact hlt)];exact Yy _ is T' J id h
theorem out_un(hn:is.Nodup)(hl:∀i∈is,i<J.length)(hres:I'.res=(XD is ι).res)(b:Nat)(h:I'.un b):(XZ is J.length ι I').un b:=by
 rintro(⟨id,s,l,h1,h2,rfl⟩|hr)
 ·rcases out_cases (ι:=ι) (I':=I') hn hl id with ⟨k,_,h3,_⟩|⟨_,h3,h4⟩
  ·rw[h3]at h1;exact h (.inl ⟨k,s,l,h1,h2,rfl⟩)
  ·rw[h4]at h1;exact h (.inr (by rw[hres];exact .inr ⟨id,s,l,h3,h1,h2,rfl⟩))
 ·exact h (.inr (by rw[hres];exact .inl hr))
theorem out_step(hlen:τ.length=is.length)(hn:is.Nodup)(hl:∀i∈is,i<J.length)(hh:HR ι J w)(hs:Step (XD is ι) τ w I' T' w'):Step ι J w (XZ is J.length ι I') (XW is J.length J T') w' where
 len:=by rw[backH_length];omega
 size:=hs.size
 os:=hs.os
 out:=hs.out
 keep:=λid s h=>by
  have hlt:=hh.lt h;rcases out_cases (ι:=ι) (I':=I') hn hl id with ⟨k,_,h3,h4,_⟩|⟨_,_,h4⟩
  ·have:XD is ι k=some s:=(by simp only[XD,h4 hlt];exact h);obtain⟨s',h5,h6⟩:=hs.keep k s this;exact⟨s',by rw[h3];exact h5,h6⟩
  ·exact⟨s,by rw[h4];exact h,A6 _,λ_=>rfl⟩
 none:=λid hlt h=>by
  rcases out_cases (ι:=ι) (I':=I') hn hl id with ⟨k,_,h3,h4,_⟩|⟨_,_,h4⟩
  ·have hk:=h4 hlt;have hkt:k<τ.length:=(by rw[hlen];exact(AE.1 hk).1);have:XD is ι k=none:=(by simp only[XD,hk];exact h);rw[h3];exact hs.none k hkt this
  ·rw[h4];exact h
 new:=λid s' l' h1 h2=>by
  rcases out_cases (ι:=ι) (I':=I') hn hl id with ⟨k,_,h3,_⟩|⟨_,_,h4⟩
  ·rw[h3]at h1;rcases hs.new k s' l' h1 h2 with h5|⟨k',s,l,h5,h6,h7⟩
   ·exact .inl h5
   ·obtain⟨i,_,h8⟩:=XJ h5;exact .inr ⟨i,s,l,h8,h6,h7⟩
  ·rw[h4]at h1;exact .inr ⟨id,s',l',h1,h2,rfl⟩
 res:=rfl
 ex:=rfl
 resKeep:=λb hb=>hs.resKeep b (.inl hb)
 frame:=λb hb hu=>hs.frame b hb λhm=>hu ((Xi b).1 hm)
theorem out_OR(hn:is.Nodup)(hl:∀i∈is,i<J.length)(hres:I'.res=(XD is ι).res)(hex:I'.ex=(XD is ι).ex){o:Obj}{s:JH}(h:OR I' w' o s):OR (XZ is J.length ι I') w' (upO is J.length o) s:=by
 refine⟨h.1,h.2.1,?_⟩;have h3:=h.2.2
 cases hl':s.loc with
 |none=>rw[hl']at h3;simp[upO,h3]
 |some l=>rw[hl']at h3;refine⟨h3.1,by simpa [upO] using h3.2.1,λj hj=> ?_⟩;obtain⟨v,h7,h8⟩:=h3.2.2 j (by simpa [upO] using hj);refine⟨v,h7,?_⟩;simp only[upO,AX];exact CR_up (λk s hk=>by rw[W2 hn hl];exact hk) (out_un hn hl hres) hex.symm h8
theorem out_HR(hlen:τ.length=is.length)(hn:is.Nodup)(hl:∀i∈is,i<J.length)(hh:HR ι J w)(hs:Step (XD is ι) τ w I' T' w')(hh':HR I' T' w'):HR (XZ is J.length ι I') (XW is J.length J T') w' where
 obj:=λid s h=>by
  rcases out_cases (ι:=ι) (I':=I') hn hl id with ⟨k,h2,h3,_⟩|⟨hlt,hm,h4⟩
  ·rw[h3]at h;obtain⟨o,h5,h6⟩:=hh'.obj k s h;refine⟨upO is J.length o,?_,out_OR hn hl hs.res hs.ex h6⟩;rw[<-h2];exact backH_up hn hl h5
  ·rw[h4]at h;obtain⟨o,h5,h6⟩:=hh.obj id s h;refine⟨o,by rw[backH_not hm hlt];exact h5,h6.congr (out_step hlen hn hl hh hs) λl hl'=> ?_⟩;exact hs.resKeep _ (.inr ⟨id,s,l,hm,h,hl',rfl⟩)
 inj:=λid id' s s' l l' h1 h2 h3 h4 h5=>by
  have mix:∀{id id':Nat} {s s':JH} {l l':Loc} {k:Nat},I' k=some s->s.loc=some l->id'∉is->ι id'=some s'->s'.loc=some l'->l.blk=l'.blk->False:=λ{id id' s s' l l' k} h1 h2 h3 h4 h5 h6=>(by refine hh'.resNo k s l h1 h2 ?_;rw[hs.res];exact .inr ⟨id',s',l',h3,h4,h5,h6.symm⟩);rcases out_cases (ι:=ι) (I':=I') hn hl id with ⟨k,h6,h7,_⟩|⟨_,hm,h7⟩<;>rcases out_cases (ι:=ι) (I':=I') hn hl id' with ⟨k',h8,h9,_⟩|⟨_,hm',h9⟩
  ·rw[h7]at h1;rw[h9]at h2;have:=hh'.inj k k' s s' l l' h1 h2 h3 h4 h5;rw[<-h6,<-h8,this]
  ·rw[h7]at h1;rw[h9]at h2;exact(mix (id:=id) h1 h3 hm' h2 h4 h5).elim
  ·rw[h7]at h1;rw[h9]at h2;exact(mix (id:=id) h2 h4 hm h1 h3 h5.symm).elim
  ·rw[h7]at h1;rw[h9]at h2;exact hh.inj id id' s s' l l' h1 h2 h3 h4 h5
 resRow:=λb hb=>hh'.resRow b (by rw[hs.res];exact .inl hb)
 resNo:=λid s l h1 h2 hr=>by
  rcases out_cases (ι:=ι) (I':=I') hn hl id with ⟨k,_,h3,_⟩|⟨_,_,h3⟩
  ·rw[h3]at h1;exact hh'.resNo k s l h1 h2 (by rw[hs.res];exact .inl hr)
  ·rw[h3]at h1;exact hh.resNo id s l h1 h2 hr
theorem in_VR(hh:HR ι J w){x:AV}{v:Value}(h:VR ι w (upV is J.length x) v):VR (XD is ι) w x v:=
 VR_down (I':=ι) (λk s hk=>by
  by_cases hlt:k<is.length
  ·rw[Zl (A4 hlt)]at hk;simp only[XD,A4 hlt];exact hk
  ·rw[KH (by omega)]at hk;have:=hh.lt hk;omega) (λb hb hm=>hb ((Xi b).1 hm)) rfl h
theorem Yb{f:FuncId}{args args0:List AV}{Q:AV->Q1->Prop}(is:List Nat)(hn:is.Nodup)(hlen:τ.length=is.length)(Hs:∀(k i:Nat) (o:Obj),is[k]? =some i->τ[k]? =some o->J[i]? =some (upO is J.length o))
  (hargs:args=args0.map (upV is J.length)) (h:Qo P f args0 τ Q):Qo P f args J λv S'=>∃v0 T',Q v0 T'/\v=upV is J.length v0/\S'=XW is J.length J T':=by
 subst hargs;have hl:∀i∈is,i<J.length:=λi hi=>by obtain⟨k,hk⟩:=CW.1 hi;have hlt:k<τ.length:=(by rw[hlen];exact(AE.1 hk).1);exact(AE.1 (Hs k i τ[k] hk (A4 hlt))).1
 refine⟨h.1,fun ι w cargs hgl hh ha=>BI (h.2 (XD is ι) w cargs (hgl.mono λb hu _=>⟨λhm=>hu ((Xi b).1 hm),rfl⟩) (inMap_HR hn hh hlen Hs) ⟨by simpa using ha.1,λi hi=> ?_⟩) ?_⟩
 ·obtain⟨u,h1,h2⟩:=ha.2 i (by simpa using hi);rw[AX]at h2;exact⟨u,h1,in_VR hh h2⟩
 ·rintro e w' ⟨v,T',I',cv,rfl,hq,hv,hh',hs⟩;refine⟨upV is J.length v,XW is J.length J T',XZ is J.length ι I',cv,rfl,⟨v,T',hq,rfl,rfl⟩,?_,out_HR hlen hn hl hh hs hh',out_step hlen hn hl hh hs⟩;exact VR_up (λk s hk=>by rw[W2 hn hl];exact hk) (out_un hn hl hs.res) hs.ex.symm hv
end
end Go.Abs
namespace Go.Abs
variable [Gl]
def J6{α β:Type}(f:α->Option β):List α->Option (List β)
 |[]=>some []
 |x::xs=>match f x,J6 f xs with
  |some y,some ys=>some (y::ys)
  |_,_=>none
def Qz:Nat->Q1->Nat->Cell->Option T
 |_,_,_,.t x=>some x
 |k+1,J,n,.sl r len cap=>if r.id<n then none else match J.at? r with
  |some o=>if r.off+len*o.es<=o.cs.length then (J6 (Qz k J n) ((o.cs.drop r.off).take (len*o.es))).map λts=>.imm ts len cap else none
  |none=>none
 |k+1,J,n,.ptr r=>if r.id<n then none else match J.at? r with
  |some o=>(J6 (Qz k J n) (o.cs.drop r.off)).map .iptr
  |none=>none
 |k+1,J,n,.clo f rs=>match Nat.beq f YID||Nat.ble BND f with|true=>none|false=>(J6 (λr=>Qz k J n (.ptr r)) rs).map λts=>.fn f ts
 |_,_,_,_=>none
def Z1(k:Nat)(J:Q1)(n:Nat):Cell->Option Cell
 |.t x=>some (.t x)
 |.ptr r=>if r.id<n then some (.ptr r) else (Qz k J n (.ptr r)).map .t
 |.sl r len cap=>if r.id<n then some (.sl r len cap) else (Qz k J n (.sl r len cap)).map .t
 |.clo f rs=>if rs.all (λr=>decide (r.id<n)) then some (.clo f rs) else (Qz k J n (.clo f rs)).map .t
def frzP(k:Nat)(J:Q1)(n:Nat):Cell⊕List Cell->Option (Cell⊕List Cell)
 |.inl x=>(Z1 k J n x).map .inl
 |.inr xs=>(J6 (Z1 k J n) xs).map .inr
def XL(k:Nat)(J:Q1)(n:Nat):AV->Option AV
 |.c x=>(Z1 k J n x).map .c
 |.agg xs=>(J6 (Z1 k J n) xs).map .agg
 |.tup xs=>(J6 (frzP k J n) xs).map .tup
def frzO(k:Nat)(J:Q1)(n:Nat)(o:Obj):Option Obj:=(J6 (Z1 k J n) o.cs).map λcs=>{ o with cs:=cs }
def Wp(k:Nat)(J:Q1)(n:Nat):Option Q1:=J6 (frzO k J n) (J.take n)
def cut(n:Nat)(ι:Map):Map:=⟨λid=>if id<n then ι id else none,ι.res,ι.ex⟩
section
variable {k n:Nat}{J S':Q1}{ι:Map}{w:World}
theorem XQ{α β:Type}{f:α->Option β}:∀{xs:List α} {ys:List β},J6 f xs=some ys->ys.length=xs.length/\∀i (hi:i<ys.length) (hi':i<xs.length),f xs[i]=some ys[i]
 |[],ys,h=>by simp only[J6,X3]at h;subst h;exact⟨rfl,λi hi=>absurd hi (by simp)⟩
 |x::xs,ys,h=>by
  simp only[J6]at h;split at h
  ·rename_i y ys' h1 h2;injection h with h;subst h;obtain⟨h3,h4⟩:=XQ h2;refine⟨by simp[h3],λi hi hi'=> ?_⟩
   cases i with
   |zero=>simpa using h1
   |succ i=>simpa using h4 i (by simpa using hi) (by simpa using hi')
  ·cases h
theorem Z6{id:Nat}{s:JH}(h:cut n ι id=some s):id<n/\ι id=some s:=by
 simp only[cut]at h;split at h
 ·rename_i hl;exact⟨hl,h⟩
 ·cases h
theorem cut_un{b:Nat}(h:ι.un b):(cut n ι).un b:=by
 rintro(⟨id,s,l,h1,h2,rfl⟩|hr)
 ·exact h (.inl ⟨id,s,l,(Z6 h1).2,h2,rfl⟩)
 ·exact h (.inr hr)
theorem cut_freed(h:HR ι J w){id:Nat}{s:JH}{l:Loc}(hid:n<=id)(hs:ι id=some s)(hl:s.loc=some l):(cut n ι).un l.blk:=by
 rintro(⟨id',s',l',h1,h2,h3⟩|hr)
 ·obtain⟨h4,h5⟩:=Z6 h1;have:=h.inj id' id s' s l' l h5 hs h2 hl h3;omega
 ·exact h.resNo id s l hs hl hr
theorem cut_ref{r:Ref}{ok:JH->Prop}(hlt:r.id<n)(h:J0 ι r ok):J0 (cut n ι) r ok:=by obtain⟨s,h1,h2⟩:=h;exact⟨s,by simp only[cut,hlt,Ag];exact h1,h2⟩
theorem Kc(h:HR ι J w):∀{k:Nat} {c:Cell} {t:T} {v:Value},CR ι w c v->Qz k J n c=some t->TR (cut n ι).un w t v
 |k,.t x,t,v,hc,hf=>by have:t=x:=(by cases k<;>(simp only[Qz,X3]at hf;exact hf.symm));subst this;exact TR.mono hc λb hb _=>⟨cut_un hb,rfl⟩
 |0,.ptr r,t,v,hc,hf=>by simp[Qz]at hf
 |0,.sl r len cap,t,v,hc,hf=>by simp[Qz]at hf
 |0,.clo f rs,t,v,hc,hf=>by simp[Qz]at hf
 |k+1,.sl r len cap,t,v,hc,hf=>by
  simp only[Qz]at hf;split at hf
  ·cases hf
  ·rename_i hid;split at hf
   ·rename_i o ho;split at hf
    ·rename_i hsz;rw[WF]at hf;obtain⟨ts,hts,rfl⟩:=hf;obtain⟨hl1,hl2⟩:=XQ hts;obtain⟨a,c,rfl,h0,href⟩:=hc;obtain⟨s,hs,_,_,hor,hok⟩:=h.ref ho href;obtain⟨h1,h2,h3⟩:=hok
     cases hloc:s.loc with
     |none=>rw[hloc]at h3;obtain⟨rfl,rfl,_⟩:=h3;have:ts=[]:=Al.1 (by rw[hl1];simp);subst this;exact .imm0 cap a 0 h2
     |some l=>rw[hloc]at h3;obtain⟨rfl,h4,h5⟩:=h3;have hrow:=((hor.row hloc).drop r.off).take (len*o.es);have hb:=hor.2.2;rw[hloc]at hb;obtain⟨⟨cells,elem,h6,_⟩,_⟩:=hb;obtain⟨g,hg⟩:∃g:Nat->Value,∀i (hi:i<ts.length),w.cell? ⟨l.blk,l.sh+r.off+i,none⟩=some (g i)/\TR (cut n ι).un w ts[i] (g i):=(by refine⟨λi=>(w.cell? ⟨l.blk,l.sh+r.off+i,none⟩).getD undef,λi hi=> ?_⟩;obtain⟨u,h7,h8⟩:=hrow i (by rw[<-hl1];exact hi);simp only[h7,BC,Aa];exact Kc h h8 (hl2 i hi (by rw[<-hl1];exact hi)));exact .imm ts len cap l.blk (l.sh+r.off) c g (cut_freed h (by omega) hs hloc) ⟨cells,elem,_,h6⟩ h2 h1 (λi hi=>(hg i hi).1) (λi hi=>(hg i hi).2)
    ·cases hf
   ·cases hf
 |k+1,.ptr r,t,v,hc,hf=>by
  simp only[Qz]at hf;split at hf
  ·cases hf
  ·rename_i hid;split at hf
   ·rename_i o ho;rw[WF]at hf;obtain⟨ts,hts,rfl⟩:=hf;obtain⟨hl1,hl2⟩:=XQ hts;obtain⟨a,rfl,href⟩:=hc;obtain⟨s,hs,_,_,hor,l,hloc,e⟩:=h.ref ho href;injection e with e;subst e;have hrow:=(hor.row hloc).drop r.off;have hb:=hor.2.2;rw[hloc]at hb;obtain⟨⟨cells,elem,h6,_⟩,_⟩:=hb;obtain⟨g,hg⟩:∃g:Nat->Value,∀i (hi:i<ts.length),w.cell? ⟨l.blk,l.sh+r.off+i,none⟩=some (g i)/\TR (cut n ι).un w ts[i] (g i):=(by refine⟨λi=>(w.cell? ⟨l.blk,l.sh+r.off+i,none⟩).getD undef,λi hi=> ?_⟩;obtain⟨u,h7,h8⟩:=hrow i (by rw[<-hl1];exact hi);simp only[h7,BC,Aa];exact Kc h h8 (hl2 i hi (by rw[<-hl1];exact hi)));exact .iptr ts l.blk (l.sh+r.off) g (cut_freed h (by omega) hs hloc) ⟨cells,elem,_,h6⟩ (λi hi=>(hg i hi).1) (λi hi=>(hg i hi).2)
   ·cases hf
 |k+1,.clo f rs,t,v,hc,hf=>by
  simp only[Qz]at hf;split at hf
  ·cases hf
  rename_i hy;rw[WF]at hf;obtain⟨ts,hts,rfl⟩:=hf;obtain⟨hl1,hl2⟩:=XQ hts;obtain⟨arr,rfl,h1,h2⟩:=cloR.no hc (λe=>by subst e;simp at hy);rw[fnv_no (λe=>by rw[C6 e,CP]at hy;cases hy)];refine .fn f ts arr (by rw[h1,hl1]) λi hi=> ?_;obtain⟨a,h3,h4⟩:=h2 i (by rw[<-hl1];exact hi);exact Kc h (c:=.ptr rs[i]) ⟨a,h3,h4⟩ (hl2 i hi (by rw[<-hl1];exact hi))
theorem U1(h:HR ι J w){c c':Cell}{v:Value}(hc:CR ι w c v)(hf:Z1 k J n c=some c'):CR (cut n ι) w c' v:=by
 have tree:∀{c:Cell},CR ι w c v->(Qz k J n c).map Cell.t=some c'->CR (cut n ι) w c' v:=λ{c} hc hf=>by rw[WF]at hf;obtain⟨t,h1,rfl⟩:=hf;exact Kc h hc h1
 cases c with
 |t x=>simp only[Z1,X3]at hf;subst hf;exact TR.mono hc λb hb _=>⟨cut_un hb,rfl⟩
 |ptr r=>
  simp only[Z1]at hf;split at hf
  ·rename_i hlt;injection hf with hf;subst hf;obtain⟨a,e,h1⟩:=hc;exact⟨a,e,cut_ref hlt h1⟩
  ·exact tree hc hf
 |sl r len cap=>
  simp only[Z1]at hf;split at hf
  ·rename_i hlt;injection hf with hf;subst hf;obtain⟨a,c,e,h0,h1⟩:=hc;exact⟨a,c,e,h0,cut_ref hlt h1⟩
  ·exact tree hc hf
 |clo f rs=>
  simp only[Z1]at hf;split at hf
  ·rename_i hlt;injection hf with hf;subst hf;refine cloR.imp hc rfl rfl λ_ i hi _ a h4=>cut_ref ?_ h4;rw[CL]at hlt;simpa using hlt rs[i] (AH hi)
  ·exact tree hc hf
theorem frz_agg(h:HR ι J w){xs ys:List Cell}{v:Value}(ha:Jf ι w xs v)(hf:J6 (Z1 k J n) xs=some ys):Jf (cut n ι) w ys v:=by obtain⟨arr,e,h1,h2⟩:=ha;obtain⟨hl1,hl2⟩:=XQ hf;refine⟨arr,e,by rw[h1,hl1],λi hi=> ?_⟩;obtain⟨u,h3,h4⟩:=h2 i (by rw[<-hl1];exact hi);exact⟨u,h3,U1 h h4 (hl2 i hi (by rw[<-hl1];exact hi))⟩
theorem frzV_ok(h:HR ι J w){x y:AV}{v:Value}(hv:VR ι w x v)(hf:XL k J n x=some y):VR (cut n ι) w y v:=by
 cases x with
 |c x=>simp only[XL,WF]at hf;obtain⟨c,h1,rfl⟩:=hf;exact U1 h hv h1
 |agg xs=>simp only[XL,WF]at hf;obtain⟨c,h1,rfl⟩:=hf;exact frz_agg h hv h1
 |tup xs=>
  simp only[XL,WF]at hf;obtain⟨ys,h1,rfl⟩:=hf;obtain⟨hl1,hl2⟩:=XQ h1;obtain⟨arr,e,h2,h3⟩:=hv;refine⟨arr,e,by rw[h2,hl1],λi hi=> ?_⟩;obtain⟨u,h4,h5⟩:=h3 i (by rw[<-hl1];exact hi);refine⟨u,h4,?_⟩;have h6:=hl2 i hi (by rw[<-hl1];exact hi);generalize xs[i]'(by rw[<-hl1];exact hi)=y at h5 h6
  cases y with
  |inl x=>simp only[frzP,WF]at h6;obtain⟨c,h7,h8⟩:=h6;rw[<-h8];exact U1 h h5 h7
  |inr x=>simp only[frzP,WF]at h6;obtain⟨c,h7,h8⟩:=h6;rw[<-h8];exact frz_agg h h5 h7
theorem frzH_len(hf:Wp k J n=some S'):S'.length=min n J.length:=by obtain⟨h1,_⟩:=XQ hf;rw[h1,Ar]
theorem frzH_ok(h:HR ι J w)(hf:Wp k J n=some S'):HR (cut n ι) S' w where
 obj:=λid s hs=>by
  obtain⟨hlt,hs⟩:=Z6 hs;obtain⟨o,h1,h2,h3,h4⟩:=h.obj id s hs;obtain⟨hl1,hl2⟩:=XQ hf;have hlt2:id<J.length:=(AE.1 h1).1;have hlt3:id<(J.take n).length:=(by rw[Ar];omega);have hlt4:id<S'.length:=(by rw[hl1];exact hlt3);have h5:=hl2 id hlt4 hlt3;have ho:(J.take n)[id]=o:=(by rw[List.getElem_take];exact(AE.1 h1).2);rw[ho]at h5;simp only[frzO,WF]at h5;obtain⟨cs,h6,h7⟩:=h5;obtain⟨hm1,hm2⟩:=XQ h6;refine⟨S'[id],A4 hlt4,by rw[<-h7];exact h2,by rw[<-h7];exact h3,?_⟩;rw[<-h7]
  cases hl:s.loc with
  |none=>rw[hl]at h4;rw[h4]at hm1;exact Al.1 (by simpa using hm1)
  |some l=>rw[hl]at h4;refine⟨h4.1,by simp only[hm1];exact h4.2.1,λi hi=> ?_⟩;obtain⟨v,h8,h9⟩:=h4.2.2 i (by rw[<-hm1];exact hi);exact⟨v,h8,U1 h h9 (hm2 i hi (by rw[<-hm1];exact hi))⟩
 inj:=λid id' s s' l l' h1 h2 h3 h4 h5=>h.inj id id' s s' l l' (Z6 h1).2 (Z6 h2).2 h3 h4 h5
 resRow:=h.resRow
 resNo:=λid s l h1 h2=>h.resNo id s l (Z6 h1).2 h2
theorem frz_step{I0:Map}{S0:Q1}{w0:World}(h0:HR I0 S0 w0)(hn:S0.length<=n)(hf:Wp k J n=some S')(hs:Step I0 S0 w0 ι J w):Step I0 S0 w0 (cut n ι) S' w where
 len:=by rw[frzH_len hf];have:=hs.len;omega
 size:=hs.size
 os:=hs.os
 out:=hs.out
 keep:=λid s h=>by obtain⟨s',h1,h2⟩:=hs.keep id s h;have:=h0.lt h;exact⟨s',by simp only[cut];rw[AF (by omega)];exact h1,h2⟩
 none:=λid hlt h=>by
  simp only[cut];split
  ·exact hs.none id hlt h
  ·rfl
 new:=λid s' l' h1 h2=>hs.new id s' l' (Z6 h1).2 h2
 res:=hs.res
 ex:=hs.ex
 resKeep:=hs.resKeep
 frame:=hs.frame
end
end Go.Abs
namespace Go.Abs
variable [Gl]
def QW(N n:Nat)(r:Q3)(J:Q1)(r':Q3)(S':Q1):Prop:=
 ∀ι w a,HR ι J w->Qt N ι w r a->∃I',HR I' S' w/\Qt N I' w r' a/\∀I0 S0 w0,HR I0 S0 w0->S0.length<=n->Step I0 S0 w0 ι J w->Step I0 S0 w0 I' S' w
def Qk(r r':Q3):Prop:=∀t v,r'.get t=some v->r.get t=some v
def FrzR(k:Nat)(J:Q1)(n:Nat)(r:Q3):Q3->Prop
 |[]=>True
 |(t,v)::l=>(∃u,r.get t=some u/\XL k J n u=some v)/\FrzR k J n r l
def SubL(r:Q3):Q3->Prop
 |[]=>True
 |(t,v)::l=>r.get t=some v/\SubL r l
section
variable {P:Program}{N:Nat}{ro:Option Nat}
theorem SubL.sub{r:Q3}:∀{r':Q3},SubL r r'->Qk r r'
 |[],_=>λt v h=>by simp[Q3.get]at h
 |(k,u)::l,h=>λt v ht=>by
  simp only[Q3.get]at ht;split at ht
  ·rename_i e;subst e;injection ht with ht;subst ht;exact h.1
  ·exact SubL.sub h.2 t v ht
theorem FrzR.get{k:Nat}{J:Q1}{n:Nat}{r:Q3}:∀{r':Q3},FrzR k J n r r'->∀t v,r'.get t=some v->∃u,r.get t=some u/\XL k J n u=some v
 |[],_=>λt v h=>by simp[Q3.get]at h
 |(k,u)::l,h=>λt v ht=>by
  simp only[Q3.get]at ht;split at ht
  ·rename_i e;subst e;injection ht with ht;subst ht;exact h.1
  ·exact FrzR.get h.2 t v ht
theorem ZI.f{r r':Q3}{J S':Q1}(h:ZI N r J r' S')(n:Nat):QW N n r J r' S':=fun ι w a hh hr=>by obtain⟨I',h1,h2,h3⟩:=h ι w a hh hr;exact⟨I',h1,h2,λ_ _ _ _ _ hs=>hs.trans h3⟩
theorem QW.trans{n:Nat}{r r' r'':Q3}{J S' S'':Q1}(h:QW N n r J r' S')(h':QW N n r' S' r'' S''):QW N n r J r'' S'':=fun ι w a hh hr=>by obtain⟨I',h1,h2,h3⟩:=h ι w a hh hr;obtain⟨i'',h4,h5,h6⟩:=h' I' w a h1 h2;exact⟨i'',h4,h5,λI0 S0 w0 h0 hn hs=>h6 I0 S0 w0 h0 hn (h3 I0 S0 w0 h0 hn hs)⟩
theorem ZI.trans{r r' r'':Q3}{J S' S'':Q1}(h:ZI N r J r' S')(h':ZI N r' S' r'' S''):ZI N r J r'' S'':=fun ι w a hh hr=>by obtain⟨I',h1,h2,h3⟩:=h ι w a hh hr;obtain⟨i'',h4,h5,h6⟩:=h' I' w a h1 h2;exact⟨i'',h4,h5,h3.trans h6⟩
theorem ZI.sub{r r':Q3}{J:Q1}(h:Qk r r'):ZI N r J r' J:=fun ι w _ hh hr=>⟨ι,hh,hr.sub h,Step.refl ι J w⟩
theorem WB{r:Q3}{J:Q1}{t:Nat}(es:Nat)(h:r.get t=some (.c (.t (.imm [] 0 (some 0))))):ZI N r J (r.set t (.c (.sl ⟨J.length,0,0⟩ 0 none))) (J++[{ cs:=[],es:=es }]):=fun ι w a hh hr=>by
 have hst:Step ι J w (ι.push J.length ⟨none,es,0⟩) (J++[{ cs:=[],es:=es }]) w:={
   len:=by simp
   size:=A6 _
   os:=rfl
   out:=rfl
   keep:=λid s' hs'=>⟨s',by rw[Map.QV _ _ (Bn (hh.lt hs'))];exact hs',A6 _,λ_=>rfl⟩
   none:=λid hid hn=>by rw[Map.QV _ _ (Bn hid)];exact hn
   new:=λid s' l' h1 h2=>by
     by_cases e:id=J.length
     · subst e
       rw[Map.QN]at h1;injection h1 with h1;subst h1;cases h2
     · rw[Map.QV _ _ e]at h1
       exact .inr ⟨id,s',l',h1,h2,rfl⟩
   res:=rfl
   ex:=rfl
   resKeep:=λ_ _=>rfl
   frame:=λ_ _ _=>rfl }
 refine⟨ι.push J.length ⟨none,es,0⟩,⟨λid s h1=> ?_,λid id' s s' l l' h1 h2 h3 h4 h5=> ?_,hh.resRow,λid s l h1 h2 hr=> ?_⟩,⟨hr.size,hr.low,λt' v hv=> ?_,hr.gl.step hst⟩,hst⟩
 · by_cases e1:id=J.length
   · subst e1
     rw[Map.QN]at h1;injection h1 with h1;subst h1;exact⟨_,by simp;rfl,rfl,rfl,rfl⟩
   · rw[Map.QV _ _ e1]at h1
     obtain⟨o',h2,h3⟩:=hh.obj id s h1;exact⟨o',by rw[AK (hh.lt h1)];exact h2,h3.congr hst (λl hl=>rfl)⟩
 · by_cases e1:id=J.length
   · subst e1
     rw[Map.QN]at h1;injection h1 with h1;subst h1;cases h3
   · by_cases e2:id'=J.length
     · subst e2
       rw[Map.QN]at h2;injection h2 with h2;subst h2;cases h4
     · rw[Map.QV _ _ e1]at h1
       rw[Map.QV _ _ e2]at h2;exact hh.inj id id' s s' l l' h1 h2 h3 h4 h5
 · by_cases e1:id=J.length
   · subst e1
     rw[Map.QN]at h1;injection h1 with h1;subst h1;cases h2
   · rw[Map.QV _ _ e1]at h1
     exact hh.resNo id s l h1 h2 hr
 · by_cases e:t=t'
   · subst e
     rw[Q3.QM]at hv;injection hv with hv;subst hv;have hv:=hr.get t _ h
     have ref:∀(ad:Option Addr),J0 (ι.push J.length ⟨none,es,0⟩) ⟨J.length,0,0⟩ (slOk 0 0 none ad 0):=λad=>
       ⟨⟨none,es,0⟩,Map.QN _ _ _,A6 _,λ_=>⟨A6 _,trivial,rfl,rfl,rfl⟩⟩
     have elk:lk (ι.push J.length ⟨none,es,0⟩) w a t=lk ι w a t:=rfl;rw[elk];have hv':TR ι.un w (.imm [] 0 (some 0)) (lk ι w a t):=hv;generalize lk ι w a t=u at hv'
     cases hv' with
     |imm0 cap ad c hc=>have:c=0:=hc;subst this;exact⟨ad,0,rfl,.inl rfl,ref ad⟩
     |imm cs len cap b off c f h1 h2 h3 h4=>have:c=0:=h3;subst this;exact⟨_,0,rfl,.inl rfl,ref _⟩
   · rw[Q3.Qe _ _ e]at hv
     exact(hr.get t' v hv).step hst
theorem ok_loop2{c:Code}(I:Nat->Q3->Q1->Prop){n:Nat}{r:Q3}{J:Q1}{Q:Exit->Q3->Q1->Prop}(h0:I n r J)
  (round:∀n r J,I n r J->Qw P N ro c r J λe r' S'=>match e with|.normal=>∃m r'' S'',m<n/\QW N J.length r' S' r'' S''/\I m r'' S''|e=>Q e r' S'):Qw P N ro (.loop c) r J Q:=fun ι w a hh hr=>by
 refine wpIn_loop' (λj a' w'=>∃r' S' I' ms,I j r' S'/\HR I' S' w'/\Qt N I' w' r' a'/\Step ι J w I' S' w'/\a'.defers=ms++a.defers/\Marks w.heap.size w' ms) (j:=n)
  ⟨r,J,ι,[],h0,hh,hr,Step.refl ι J w,rfl,Marks.nil _ _⟩ ?_
 rintro j a1 w1 ⟨r1,A1,I1,ms1,h1,h2,h3,h4,h5,h6⟩;refine Bz (round j r1 A1 h1 I1 w1 a1 h2 h3) λe a2 w2 hp=> ?_;obtain⟨h0',r2,A2,I2,ms2,h7,h8,h9,h10,h11,h12⟩:=hp;have hm:Marks w.heap.size w2 (ms2++ms1):=Marks.append (h6.step h2 h10) h12 h4.size h6.lt;have hd:a2.defers=(ms2++ms1)++a.defers:=by rw[h11,h5,Ac]
 cases e with
 |normal=>obtain⟨m,r3,A3,hlt,hg,hI⟩:=h7;obtain⟨I3,h13,h14,h15⟩:=hg I2 w2 a2 h8 h9;exact⟨m,hlt,r3,A3,I3,ms2++ms1,hI,h13,h14,h4.trans (h15 I1 A1 w1 h2 (A6 _) h10),hd,hm⟩
 |exit id=>exact⟨trivial,r2,A2,I2,ms2++ms1,h7,h8,h9,h4.trans h10,hd,hm⟩
 |goto l=>exact⟨trivial,r2,A2,I2,ms2++ms1,h7,h8,h9,h4.trans h10,hd,hm⟩
 |ret=>exact⟨trivial,r2,A2,I2,ms2++ms1,h7,h8,h9,h4.trans h10,hd,hm⟩
 |panic ch=>exact h0'.elim
 |outgrown=>exact h0'.elim
theorem Qo.mono{f:FuncId}{args:List AV}{J:Q1}{Q Q':AV->Q1->Prop}(h:Qo P f args J Q)(hq:∀v S',Q v S'->Q' v S'):Qo P f args J Q':=
 ⟨h.1,fun ι w cargs hgl hh ha=>BI (h.2 ι w cargs hgl hh ha) λe w' ⟨v,S',I',cv,h1,h2,h3⟩=>⟨v,S',I',cv,h1,hq _ _ h2,h3⟩⟩
theorem K9{f:FuncId}{args:List AV}{J:Q1}{Q:AV->Q1->Prop}(n:Nat)(hn:J.length<=n)(h:Qo P f args J λv S'=>∃k y S'',XL k S' n v=some y/\Wp k S' n=some S''/\Q y S''):Qo P f args J Q:=
 ⟨h.1,fun ι w cargs hgl hh ha=>BI (h.2 ι w cargs hgl hh ha) λe w' ⟨v,S',I',cv,h1,⟨k,y,S'',h2,h3,h4⟩,h5,h6,h7⟩=>
  ⟨y,S'',cut n I',cv,h1,h4,frzV_ok h6 h5 h2,frzH_ok h6 h3,frz_step hh hn h3 h7⟩⟩
def Cell.isT:Cell->Bool
 |.t _=>true
 |_=>false
def AV.isT:AV->Bool
 |.c x=>x.isT
 |.agg xs=>xs.all Cell.isT
 |.tup xs=>xs.all fun|.inl x=>x.isT|.inr xs=>xs.all Cell.isT
theorem U7{is:List Nat}{n:Nat}{c:Cell}(h:c.isT=true):upC is n c=c:=by cases c<;>first|rfl|simp[Cell.isT]at h
theorem Kt{is:List Nat}{n:Nat}:∀{cs:List Cell},cs.all Cell.isT=true->cs.map (upC is n)=cs
 |[],_=>rfl
 |c::cs,h=>by simp only[CU,A9]at h;simp[U7 h.1,Kt h.2]
theorem Y7{is:List Nat}{n:Nat}{v:AV}(h:v.isT=true):upV is n v=v:=by
 cases v with
 |c x=>simp only[upV,U7 h]
 |agg xs=>simp only[upV,Kt h]
 |tup xs=>
  simp only[upV];congr 1;have:∀{ys:List (Cell⊕List Cell)},(ys.all fun|.inl x=>x.isT|.inr xs=>xs.all Cell.isT)=true->ys.map (upP is n)=ys:=λ{ys} hy=>by
   induction ys with
   |nil=>rfl
   |cons y ys ih=>
    simp only[CU,A9]at hy;rw[AT,ih hy.2]
    cases y with
    |inl x=>simp only[upP,U7 hy.1]
    |inr xs=>simp only[upP,Kt hy.1]
  exact this h
theorem Ue{is:List Nat}{n:Nat}:∀{vs:List AV},vs.all AV.isT=true->vs.map (upV is n)=vs
 |[],_=>rfl
 |v::vs,h=>by simp only[CU,A9]at h;simp[Y7 h.1,Ue h.2]
theorem fn_any{f:FuncId}{args:List AV}{J:Q1}{Q:AV->Prop}(ha:args.all AV.isT=true)(h:Qo P f args [] λv S'=>v.isT=true/\S'=[]/\Q v):Qo P f args J λv S'=>Q v/\S'=J:=by have:=Yb (J:=J) (args:=args) [] List.nodup_nil rfl (λk i o hk=>by simp at hk) (Ue ha).symm h;refine this.mono λv S' ⟨v0,T',⟨h1,h2,h3⟩,h4,h5⟩=> ?_;subst h2;rw[Y7 h1]at h4;subst h4;exact⟨h3,by rw[h5];simp[XW,J8]⟩
theorem WQ{f:FuncId}{args:List AV}{J:Q1}{v:AV}(ha:args.all AV.isT=true)(hv:v.isT=true)(h:Qo P f args [] λv' S'=>v'=v/\S'=[]):ZJ P f args J [] v:=fun τ _=>
 (fn_any (J:=τ) (Q:=λv'=>v'=v) ha (h.mono λv' S' ⟨h1,h2⟩=>⟨h1▸hv,h2,h1⟩))
end
end Go.Abs
namespace Go.Abs
variable [Gl]
abbrev CF:=FuncId->List AV->Q1->Option (AV×Q1)
def stepR(P:Program)(cf:CF)(r:Q3)(J:Q1)(op:Op):Option (Option AV×Q1):=match op with
 |.call { callee:=.value f,args,argTypes:=_ }=>match XF r f args.toList with
  |some x=>(cf x.1 x.2 J).map λy=>(some y.1,y.2)
  |none=>none
 |.binOp b xT x y yT=>if Qr y then (match J2 P r (.binOp b xT x y yT) with
  |some (n,ne)=>if n=0 then none else some (some (aB ne),J)
  |none=>none) else opE P r J (.binOp b xT x y yT)
 |op=>opE P r J op
def opsR(P:Program)(cf:CF)(N:Nat):List COp->Q3->Q1->Option (Q3×Q1)
 |[],r,J=>some (r,J)
 |⟨d,op,g,k⟩::os,r,J=>if Jd N d then (match Xb r g with
  |some true=>match stepR P cf r J op with
   |some (res,S')=>opsR P cf N os ((r.Qu d res).kill k) S'
   |none=>none
  |some false=>opsR P cf N os ((r.drop d).kill k) J
  |none=>none) else none
def constR(cf:CF)(g:FuncId)(args:List AV):Option AV:=if args.all AV.isT then (match cf g args [] with
  |some (v,J)=>match XL 8 J 0 v with
   |some u=>if u.isT then some u else none
   |none=>none
  |none=>none) else none
abbrev Tab:=FuncId->Option (Nat×List ResultVar×CC)
section
variable {P:Program}{N:Nat}{ro:Option Nat}
def Y5(P:Program)(cf:CF):Prop:=∀f args J v S',cf f args J=some (v,S')->Qo P f args J λu τ=>u=v/\τ=S'
theorem stepR_ok{cf:CF}(hcf:Y5 P cf){r:Q3}{J S':Q1}{op:Op}{res:Option AV}{K:Option AV->Q1->Prop}{t:Tag K}(h:stepR P cf r J op=some (res,S'))(hK:K res S'):stepC P r J op K t:=by
 unfold stepR at h;unfold stepC;split at h
 ·rename_i f args ts;simp only;split at h
  ·rename_i x hx;rw[hx];rw[WF]at h;obtain⟨⟨v,τ⟩,h1,h2⟩:=h;injection h2 with h2 h3;subst h2;subst h3;exact(hcf _ _ _ _ _ h1).mono λu T' ⟨e1,e2⟩=>by subst e1;subst e2;exact hK
  ·cases h
 ·rename_i b xT x y yT;simp only;split at h
  ·rename_i hy;split at h
   ·rename_i n ne hn;split at h
    ·cases h
    ·rename_i hn0;injection h with h;injection h with h1 h2;subst h1;subst h2;simp only[hy,Ag];have hn':=hn;simp only[J2,hy,Ag]at hn;split at hn
     ·rename_i i v ne' e1 e2 e3;split at hn
      ·rename_i e m hk _;simp only[e1,hk,hn',Jv,nilK];exact⟨hK,λe=>absurd e hn0⟩
      ·cases hn
     ·cases hn
   ·cases h
  ·rename_i hy;simp only[hy,Af];simp only[h,YC,AM,Af];exact hK
 ·rename_i h1 h2;split
  ·rename_i f args ts;exact absurd rfl (h1 f args ts)
  ·rename_i b xT x y yT;exact absurd rfl (h2 b xT x y yT)
  ·simp only[h,YC];exact hK
theorem opsR_ok{cf:CF}(hcf:Y5 P cf){K:Q3->Q1->Prop}{t:Tag K}:∀{os:List COp} {r r':Q3} {J S':Q1},opsR P cf N os r J=some (r',S')->K r' S'->opsC P N os r J K t
 |[],r,r',J,S',h,hK=>by simp only[opsR,X3,A0]at h;obtain⟨rfl,rfl⟩:=h;exact hK
 |⟨d,op,g,k⟩::os,r,r',J,S',h,hK=>by
  simp only[opsR]at h;split at h
  ·rename_i hd;refine⟨hd,?_⟩;split at h
   ·rename_i hg;rw[hg,Xh];split at h
    ·rename_i res A1 h1;exact stepR_ok hcf h1 (opsR_ok hcf h hK)
    ·cases h
   ·rename_i hg;rw[hg,ZK];exact opsR_ok hcf h hK
   ·cases h
  ·cases h
theorem constR_ok{cf:CF}(hcf:Y5 P cf){g:FuncId}{args:List AV}{v:AV}{J:Q1}(h:constR cf g args=some v):ZJ P g args J [] v:=by
 unfold constR at h;split at h
 ·rename_i ha;split at h
  ·rename_i u τ h1;split at h
   ·rename_i y hy;split at h
    ·rename_i ht;injection h with h;subst h;refine WQ ha ht (K9 0 (by simp) ((hcf _ _ _ _ _ h1).mono λv' S' ⟨e1,e2⟩=> ?_));subst e1;subst e2;exact⟨8,y,[],hy,by simp[Wp,J6],rfl,rfl⟩
    ·cases h
   ·cases h
  ·cases h
 ·cases h
end
end Go.Abs
namespace Go.Abs
variable [Gl]
section
variable {P:Program}{N:Nat}{ro:Option Nat}
theorem Wc(f:Obj->Obj):∀(is:List Nat) (τ J:Q1),(∀(k i:Nat) (o:Obj),is[k]? =some i->τ[k]? =some o->J[i]? =some (f o))->J8 f is τ J=J
 |[],_,_,_=>by simp[J8]
 |_::_,[],_,_=>by simp[J8]
 |i::is,o::τ,J,h=>by have h0:=h 0 i o rfl rfl;have e:J.set i (f o)=J:=(by obtain⟨hlt,he⟩:=AE.1 h0;rw[<-he];exact List.set_getElem_self hlt);simp only[J8,e];exact Wc f is τ J λk i' o' h1 h2=>h (k+1) i' o' h1 h2
theorem const_read{f:FuncId}{args args0:List AV}{J τ:Q1}{v:AV}(is:List Nat)(hn:is.Nodup)(hlen:τ.length=is.length)(Hs:∀(n k i:Nat) (o:Obj),is[k]? =some i->τ[k]? =some o->J[i]? =some (upO is n o))
  (hargs:∀n,args=args0.map (upV is n)) (hv:v.isT=true) (h:Qo P f args0 τ λv' S'=>v'=v/\S'=τ):ZJ P f args J (is.map (· +1)) v:=λA2 hag=>by
 have HS2:∀(k i:Nat) (o:Obj),is[k]? =some i->τ[k]? =some o->A2[i]? =some (upO is A2.length o):=λk i o h1 h2=>by have:agC A2 J (i+1):=hag _ (Ba.2 ⟨i,BM h1,rfl⟩);exact Eq.trans this (Hs A2.length k i o h1 h2)
 refine(Yb (J:=A2) is hn hlen HS2 (hargs A2.length) h).mono λv' S' ⟨v0,T',⟨h1,h2⟩,h3,h4⟩=> ?_;subst h1;subst h2;rw[Y7 hv]at h3;refine⟨h3,?_⟩;rw[h4,XW,Wc _ _ _ _ HS2];have:List.drop is.length T'=[]:=Bw.2 (by omega);simp[this]
end
end Go.Abs
namespace Go.Abs
variable [Gl]
section
variable (P:Program)(r:Q3)(J:Q1)(K:Option AV->Q1->List Nat->List Nat->Prop)(tg:Tag K)
end
end Go.Abs
namespace Go.Abs
variable [Gl]
section
variable {P:Program}
end
end Go.Abs
