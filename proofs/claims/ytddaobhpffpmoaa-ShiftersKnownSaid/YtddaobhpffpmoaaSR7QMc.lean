/- A part of the proof. -/
import Derived.Test.YtddaobhpffpmoaaSR7QAbsO
set_option linter.all false
namespace Go.Abs
variable [Gl]
def X0(is:List Nat)(n k:Nat):Nat:=match is[k]? with
 |some i=>i
 |none=>n+(k - is.length)
def upR(is:List Nat)(n:Nat)(r:Ref):Ref:={ r with id:=X0 is n r.id }
def upC(is:List Nat)(n:Nat):Cell->Cell
 |.t x=>.t x
 |.ptr r=>.ptr (upR is n r)
 |.sl r l c=>.sl (upR is n r) l c
 |.clo f rs=>.clo f (rs.map (upR is n))
def upP(is:List Nat)(n:Nat):Cell⊕List Cell->Cell⊕List Cell
 |.inl x=>.inl (upC is n x)
 |.inr xs=>.inr (xs.map (upC is n))
def upV(is:List Nat)(n:Nat):AV->AV
 |.c x=>.c (upC is n x)
 |.agg xs=>.agg (xs.map (upC is n))
 |.tup xs=>.tup (xs.map (upP is n))
def upO(is:List Nat)(n:Nat)(o:Obj):Obj:={ o with cs:=o.cs.map (upC is n) }
def Jc(f:Obj->Obj):List Nat->Q1->Q1->Q1
 |i::is,o::τ,O=>Jc f is τ (O.set i (f o))
 |_,_,O=>O
def Z3(is:List Nat)(n:Nat)(O τ:Q1):Q1:=Jc (upO is n) is τ O++(τ.drop is.length).map (upO is n)
theorem Ja(f:Obj->Obj):∀(is:List Nat) (τ O:Q1),(Jc f is τ O).length=O.length
 |[],_,_=>by simp[Jc]
 |_::_,[],_=>by simp[Jc]
 |i::is,o::τ,O=>by simp[Jc,Ja f is τ]
theorem Ke(f:Obj->Obj):∀(is:List Nat) (τ O:Q1) (id:Nat),id∉is->(Jc f is τ O)[id]? =O[id]?
 |[],_,_,_,_=>by simp[Jc]
 |_::_,[],_,_,_=>by simp[Jc]
 |i::is,o::τ,O,id,h=>by simp only[Ag,not_or]at h;simp only[Jc];rw[Ke f is τ _ id h.2,BX (BU h.1)]
theorem putAll_at(f:Obj->Obj):∀(is:List Nat) (τ O:Q1),is.Nodup->(∀i∈is,i<O.length)->∀(k i:Nat) (o:Obj),is[k]? =some i->τ[k]? =some o->(Jc f is τ O)[i]? =some (f o)
 |[],_,_,_,_,k,i,o,h,_=>by simp at h
 |_::_,[],_,_,_,k,i,o,_,h=>by simp at h
 |j::is,p::τ,O,hn,hl,k,i,o,h1,h2=>by
  simp only[Jc]
  cases k with
  |zero=>simp only[B8,A0]at h1 h2;subst h1;subst h2;rw[Ke f is τ _ j (CN.1 hn).1,Bc (hl j (by simp))]
  |succ k=>simp only[B9]at h1 h2;exact putAll_at f is τ _ (CN.1 hn).2 (λi hi=>by simpa using hl i (by simp[hi])) k i o h1 h2
section
variable {P:Program}{is:List Nat}{O τ T':Q1}{ι I':Map}{w w':World}
theorem CR_up{n:Nat}{w:World}(hi:∀k s,ι k=some s->I' (X0 is n k)=some s)(hu:∀b,ι.un b->I'.un b)(hx:I'.ex=ι.ex){c:Cell}{v:Value}(h:CR ι w c v):CR I' w (upC is n c) v:=by
 have hr:∀{r:Ref} {ok:Je->Prop},J6 ι r ok->J6 I' (upR is n r) ok:=λ{r ok} ⟨s,h1,h2,h3⟩=>⟨s,hi _ _ h1,h2,h3⟩
 cases c with
 |t x=>exact TR.mono h λb hb hrow=>⟨hu b hb,rfl⟩
 |ptr r=>obtain⟨a,e,h1⟩:=h;exact⟨a,e,hr h1⟩
 |sl r l c=>obtain⟨a,c,e,h1,h2⟩:=h;exact⟨a,c,e,h1,hr h2⟩
 |clo f rs=>refine cloR.imp (caps':=rs.map (upR is n)) h (by rw[hx]) (by simp) λ_ i hi hi' a h4=> ?_;simp only[AM];exact hr h4
theorem CR_down{n:Nat}{w:World}(hi:∀k s,I' (X0 is n k)=some s->ι k=some s)(hu:∀b,I'.un b->ι.un b)(hx:I'.ex=ι.ex){c:Cell}{v:Value}(h:CR I' w (upC is n c) v):CR ι w c v:=by
 have hr:∀{r:Ref} {ok:Je->Prop},J6 I' (upR is n r) ok->J6 ι r ok:=λ{r ok} ⟨s,h1,h2,h3⟩=>⟨s,hi _ _ h1,h2,h3⟩
 cases c with
 |t x=>exact TR.mono h λb hb hrow=>⟨hu b hb,rfl⟩
 |ptr r=>obtain⟨a,e,h1⟩:=h;exact⟨a,e,hr h1⟩
 |sl r l c=>obtain⟨a,c,e,h1,h2⟩:=h;exact⟨a,c,e,h1,hr h2⟩
 |clo f rs=>refine cloR.imp (caps:=rs.map (upR is n)) h (by rw[hx]) (by simp) λ_ i hi hi' a h4=> ?_;simp only[AM]at h4;exact hr h4
theorem Wx{f:Cell->Cell}{w w':World}(h:∀c v,CR ι w c v->CR I' w' (f c) v){xs:List Cell}{v:Value}(ha:Jj ι w xs v):Jj I' w' (xs.map f) v:=by obtain⟨arr,e,h1,h2⟩:=ha;refine⟨arr,e,by simpa using h1,λi hi=> ?_⟩;obtain⟨u,h3,h4⟩:=h2 i (by simpa using hi);exact⟨u,h3,by rw[AM];exact h _ _ h4⟩
theorem KX{f:Cell->Cell}{w w':World}(h:∀c v,CR ι w (f c) v->CR I' w' c v){xs:List Cell}{v:Value}(ha:Jj ι w (xs.map f) v):Jj I' w' xs v:=by obtain⟨arr,e,h1,h2⟩:=ha;refine⟨arr,e,by simpa using h1,λi hi=> ?_⟩;obtain⟨u,h3,h4⟩:=h2 i (by simpa using hi);rw[AM]at h4;exact⟨u,h3,h _ _ h4⟩
theorem VR_up{n:Nat}{w:World}(hi:∀k s,ι k=some s->I' (X0 is n k)=some s)(hu:∀b,ι.un b->I'.un b)(hx:I'.ex=ι.ex){x:AV}{v:Value}(h:VR ι w x v):VR I' w (upV is n x) v:=by
 have hc:∀c v,CR ι w c v->CR I' w (upC is n c) v:=λc v=>CR_up hi hu hx
 cases x with
 |c x=>exact hc _ _ h
 |agg xs=>exact Wx hc h
 |tup xs=>
  obtain⟨arr,e,h1,h2⟩:=h;refine⟨arr,e,by simpa using h1,λi hi=> ?_⟩;obtain⟨u,h3,h4⟩:=h2 i (by simpa using hi);refine⟨u,h3,?_⟩;rw[AM];generalize xs[i]'(by simpa using hi)=y at h4⊢
  cases y with
  |inl x=>exact hc _ _ h4
  |inr xs=>exact Wx hc h4
theorem VR_down{n:Nat}{w:World}(hi:∀k s,I' (X0 is n k)=some s->ι k=some s)(hu:∀b,I'.un b->ι.un b)(hx:I'.ex=ι.ex){x:AV}{v:Value}(h:VR I' w (upV is n x) v):VR ι w x v:=by
 have hc:∀c v,CR I' w (upC is n c) v->CR ι w c v:=λc v=>CR_down hi hu hx
 cases x with
 |c x=>exact hc _ _ h
 |agg xs=>exact KX hc h
 |tup xs=>
  obtain⟨arr,e,h1,h2⟩:=h;refine⟨arr,e,by simpa using h1,λi hi=> ?_⟩;obtain⟨u,h3,h4⟩:=h2 i (by simpa using hi);refine⟨u,h3,?_⟩;rw[AM]at h4;generalize xs[i]'(by simpa using hi)=y at h4⊢
  cases y with
  |inl x=>exact hc _ _ h4
  |inr xs=>exact KX hc h4
theorem YA{n k i:Nat}(h:is[k]? =some i):X0 is n k=i:=by simp[X0,h]
theorem Ky{n k:Nat}(h:is.length<=k):X0 is n k=n+(k - is.length):=by simp[X0,Ad h]
def Xb(is:List Nat)(ι:Map):Map:=⟨λk=>match is[k]? with|some i=>ι i|none=>none,λb=>ι.res b\/∃id s l,id∉is/\ι id=some s/\s.loc=some l/\l.blk=b,ι.ex⟩
def Xz(is:List Nat)(n:Nat)(ι I':Map):Map:=⟨λid=>if id<n then (if id∈is then I' (is.idxOf id) else ι id) else I' (is.length+(id - n)),ι.res,ι.ex⟩
theorem Xk{k:Nat}{s:Je}(h:Xb is ι k=some s):∃i,is[k]? =some i/\ι i=some s:=by
 simp only[Xb]at h;split at h
 ·rename_i i hi;exact⟨i,hi,h⟩
 ·cases h
theorem Z7(b:Nat):(Xb is ι).mapped b↔ι.mapped b:=by
 constructor
 ·rintro(⟨k,s,l,h1,h2,rfl⟩|h|⟨id,s,l,_,h1,h2,rfl⟩)
  ·obtain⟨i,_,h3⟩:=Xk h1;exact .inl ⟨i,s,l,h3,h2,rfl⟩
  ·exact .inr h
  ·exact .inl ⟨id,s,l,h1,h2,rfl⟩
 ·rintro(⟨id,s,l,h1,h2,rfl⟩|h)
  ·by_cases hm:id∈is
   ·obtain⟨k,hk⟩:=CQ.1 hm;exact .inl ⟨k,s,l,by simp only[Xb,hk];exact h1,h2,rfl⟩
   ·exact .inr (.inr ⟨id,s,l,hm,h1,h2,rfl⟩)
  ·exact .inr (.inl h)
theorem inMap_HR(hn:is.Nodup)(h:HR ι O w)(hlen:τ.length=is.length)(Hs:∀(k i:Nat) (o:Obj),is[k]? =some i->τ[k]? =some o->O[i]? =some (upO is O.length o)):HR (Xb is ι) τ w where
 obj:=λk s hk=>by
  obtain⟨i,h1,h2⟩:=Xk hk;obtain⟨o,h3,h4⟩:=h.obj i s h2;have hlt:k<τ.length:=(by rw[hlen];exact(AF.1 h1).1);have h5:=Hs k i τ[k] h1 (A3 hlt);rw[h3]at h5;injection h5 with h5;subst h5;refine⟨τ[k],A3 hlt,h4.1,h4.2.1,?_⟩;have h6:=h4.2.2
  cases hl:s.loc with
  |none=>rw[hl]at h6;simpa [upO] using h6
  |some l=>
   rw[hl]at h6;refine⟨h6.1,by simpa [upO] using h6.2.1,λj hj=> ?_⟩;obtain⟨v,h7,h8⟩:=h6.2.2 j (by simpa [upO] using hj);refine⟨v,h7,?_⟩;simp only[upO,AM]at h8;refine CR_down (I':=ι) (n:=O.length) (λk s hk=> ?_) (λb hb=>λhm=>hb ((Z7 b).1 hm)) rfl h8;by_cases hlt:k<is.length
   ·rw[YA (A3 hlt)]at hk;simp only[Xb,A3 hlt];exact hk
   ·rw[Ky (by omega)]at hk;have:=h.lt hk;omega
 inj:=λk k' s s' l l' h1 h2 h3 h4 h5=>by obtain⟨i,h6,h7⟩:=Xk h1;obtain⟨i',h8,h9⟩:=Xk h2;have e:=h.inj i i' s s' l l' h7 h9 h3 h4 h5;subst e;obtain⟨hk,h6⟩:=AF.1 h6;obtain⟨hk',h8⟩:=AF.1 h8;exact(List.getElem_inj hn).1 (h6.trans h8.symm)
 resRow:=λb hb=>by
  rcases hb with hb|⟨id,s,l,_,h1,h2,rfl⟩
  ·exact h.resRow b hb
  ·obtain⟨o,_,_,_,h3⟩:=h.obj id s h1;rw[h2]at h3;obtain⟨⟨c,e,h4,_⟩,_⟩:=h3;exact⟨c,e,_,h4⟩
 resNo:=λk s l h1 h2 hr=>by
  obtain⟨i,h3,h4⟩:=Xk h1;rcases hr with hr|⟨id,s',l',hid,h5,h6,h7⟩
  ·exact h.resNo i s l h4 h2 hr
  ·have:=h.inj id i s' s l' l h5 h4 h6 h2 h7;subst this;exact hid (BW h3)
end
end Go.Abs
namespace Go.Abs
variable [Gl]
section
variable {P:Program}{is:List Nat}{O τ T':Q1}{ι I':Map}{w w':World}
theorem U6(hn:is.Nodup)(hl:∀i∈is,i<O.length)(k:Nat):Xz is O.length ι I' (X0 is O.length k)=I' k:=by
 by_cases h:k<is.length
 ·have hk:is[k]? =some is[k]:=A3 h;rw[YA hk];have hm:is[k]∈is:=AJ h;have hi:is.idxOf is[k]=k:=List.Nodup.idxOf_getElem hn k h;simp only[Xz,hl _ hm,hm,Ai,hi]
 ·rw[Ky (by omega)];have h1:¬O.length+(k - is.length)<O.length:=(by omega);have h2:is.length+(O.length+(k - is.length) - O.length)=k:=(by omega);simp only[Xz,h1,Af,h2]
theorem out_cases(hn:is.Nodup)(hl:∀i∈is,i<O.length)(id:Nat):(∃k,X0 is O.length k=id/\Xz is O.length ι I' id=I' k/\(id<O.length->is[k]? =some id)/\(O.length<=id->k=is.length+(id - O.length)))\/(id<O.length/\id∉is/\Xz is O.length ι I' id=ι id):=by
 by_cases h:id<O.length
 ·by_cases hm:id∈is
  ·obtain⟨k,hk⟩:=CQ.1 hm;refine .inl ⟨k,YA hk,?_,λ_=>hk,λh'=>by omega⟩;have:=U6 (ι:=ι) (I':=I') hn hl k;rw[YA hk]at this;exact this
  ·exact .inr ⟨h,hm,by simp only[Xz,h,hm,Ai,Af]⟩
 ·refine .inl ⟨is.length+(id - O.length),?_,?_,λh'=>by omega,λ_=>rfl⟩
  ·rw[Ky (by omega)];omega
  ·simp only[Xz,h,Af]
theorem backH_length:(Z3 is O.length O T').length=O.length+(T'.length - is.length):=by simp[Z3,Ja]
theorem backH_up(hn:is.Nodup)(hl:∀i∈is,i<O.length){k:Nat}{o:Obj}(ho:T'[k]? =some o):(Z3 is O.length O T')[X0 is O.length k]? =some (upO is O.length o):=by
 by_cases h:k<is.length
 ·have hk:is[k]? =some is[k]:=A3 h;rw[YA hk];unfold Z3;rw[AK (by rw[Ja];exact hl _ (AJ h))];exact putAll_at _ is T' O hn hl k _ o hk ho
 ·rw[Ky (by omega)];unfold Z3;rw[AT (by rw[Ja];omega),Ja,AX,CL];have:is.length+(O.length+(k - is.length) - O.length)=k:=(by omega);rw[this,ho];rfl
theorem backH_not{id:Nat}(h:id∉is)(hlt:id<O.length):(Z3 is O.length O T')[id]? =O[id]? :=by unfold Z3;rw[AK (by rw[Ja];exact hlt)];exact Ke _ is T' O id h
theorem out_un(hn:is.Nodup)(hl:∀i∈is,i<O.length)(hres:I'.res=(Xb is ι).res)(b:Nat)(h:I'.un b):(Xz is O.length ι I').un b:=by
 rintro(⟨id,s,l,h1,h2,rfl⟩|hr)
 ·rcases out_cases (ι:=ι) (I':=I') hn hl id with ⟨k,_,h3,_⟩|⟨_,h3,h4⟩
  ·rw[h3]at h1;exact h (.inl ⟨k,s,l,h1,h2,rfl⟩)
  ·rw[h4]at h1;exact h (.inr (by rw[hres];exact .inr ⟨id,s,l,h3,h1,h2,rfl⟩))
 ·exact h (.inr (by rw[hres];exact .inl hr))
theorem out_step(hlen:τ.length=is.length)(hn:is.Nodup)(hl:∀i∈is,i<O.length)(hh:HR ι O w)(hs:Step (Xb is ι) τ w I' T' w'):Step ι O w (Xz is O.length ι I') (Z3 is O.length O T') w' where
 len:=by rw[backH_length];omega
 size:=hs.size
 os:=hs.os
 out:=hs.out
 keep:=λid s h=>by
  have hlt:=hh.lt h;rcases out_cases (ι:=ι) (I':=I') hn hl id with ⟨k,_,h3,h4,_⟩|⟨_,_,h4⟩
  ·have:Xb is ι k=some s:=(by simp only[Xb,h4 hlt];exact h);obtain⟨s',h5,h6⟩:=hs.keep k s this;exact⟨s',by rw[h3];exact h5,h6⟩
  ·exact⟨s,by rw[h4];exact h,A9 _,λ_=>rfl⟩
 none:=λid hlt h=>by
  rcases out_cases (ι:=ι) (I':=I') hn hl id with ⟨k,_,h3,h4,_⟩|⟨_,_,h4⟩
  ·have hk:=h4 hlt;have hkt:k<τ.length:=(by rw[hlen];exact(AF.1 hk).1);have:Xb is ι k=none:=(by simp only[Xb,hk];exact h);rw[h3];exact hs.none k hkt this
  ·rw[h4];exact h
 new:=λid s' l' h1 h2=>by
  rcases out_cases (ι:=ι) (I':=I') hn hl id with ⟨k,_,h3,_⟩|⟨_,_,h4⟩
  ·rw[h3]at h1;rcases hs.new k s' l' h1 h2 with h5|⟨k',s,l,h5,h6,h7⟩
   ·exact .inl h5
   ·obtain⟨i,_,h8⟩:=Xk h5;exact .inr ⟨i,s,l,h8,h6,h7⟩
  ·rw[h4]at h1;exact .inr ⟨id,s',l',h1,h2,rfl⟩
 res:=rfl
 ex:=rfl
 resKeep:=λb hb=>hs.resKeep b (.inl hb)
 frame:=λb hb hu=>hs.frame b hb λhm=>hu ((Z7 b).1 hm)
theorem out_OR(hn:is.Nodup)(hl:∀i∈is,i<O.length)(hres:I'.res=(Xb is ι).res)(hex:I'.ex=(Xb is ι).ex){o:Obj}{s:Je}(h:OR I' w' o s):OR (Xz is O.length ι I') w' (upO is O.length o) s:=by
 refine⟨h.1,h.2.1,?_⟩;have h3:=h.2.2
 cases hl':s.loc with
 |none=>rw[hl']at h3;simp[upO,h3]
 |some l=>rw[hl']at h3;refine⟨h3.1,by simpa [upO] using h3.2.1,λj hj=> ?_⟩;obtain⟨v,h7,h8⟩:=h3.2.2 j (by simpa [upO] using hj);refine⟨v,h7,?_⟩;simp only[upO,AM];exact CR_up (λk s hk=>by rw[U6 hn hl];exact hk) (out_un hn hl hres) hex.symm h8
theorem out_HR(hlen:τ.length=is.length)(hn:is.Nodup)(hl:∀i∈is,i<O.length)(hh:HR ι O w)(hs:Step (Xb is ι) τ w I' T' w')(hh':HR I' T' w'):HR (Xz is O.length ι I') (Z3 is O.length O T') w' where
 obj:=λid s h=>by
  rcases out_cases (ι:=ι) (I':=I') hn hl id with ⟨k,h2,h3,_⟩|⟨hlt,hm,h4⟩
  ·rw[h3]at h;obtain⟨o,h5,h6⟩:=hh'.obj k s h;refine⟨upO is O.length o,?_,out_OR hn hl hs.res hs.ex h6⟩;rw[<-h2];exact backH_up hn hl h5
  ·rw[h4]at h;obtain⟨o,h5,h6⟩:=hh.obj id s h;refine⟨o,by rw[backH_not hm hlt];exact h5,h6.congr (out_step hlen hn hl hh hs) λl hl'=> ?_⟩;exact hs.resKeep _ (.inr ⟨id,s,l,hm,h,hl',rfl⟩)
 inj:=λid id' s s' l l' h1 h2 h3 h4 h5=>by
  have mix:∀{id id':Nat} {s s':Je} {l l':Loc} {k:Nat},I' k=some s->s.loc=some l->id'∉is->ι id'=some s'->s'.loc=some l'->l.blk=l'.blk->False:=λ{id id' s s' l l' k} h1 h2 h3 h4 h5 h6=>(by refine hh'.resNo k s l h1 h2 ?_;rw[hs.res];exact .inr ⟨id',s',l',h3,h4,h5,h6.symm⟩);rcases out_cases (ι:=ι) (I':=I') hn hl id with ⟨k,h6,h7,_⟩|⟨_,hm,h7⟩<;>rcases out_cases (ι:=ι) (I':=I') hn hl id' with ⟨k',h8,h9,_⟩|⟨_,hm',h9⟩
  ·rw[h7]at h1;rw[h9]at h2;have:=hh'.inj k k' s s' l l' h1 h2 h3 h4 h5;rw[<-h6,<-h8,this]
  ·rw[h7]at h1;rw[h9]at h2;exact(mix (id:=id) h1 h3 hm' h2 h4 h5).elim
  ·rw[h7]at h1;rw[h9]at h2;exact(mix (id:=id) h2 h4 hm h1 h3 h5.symm).elim
  ·rw[h7]at h1;rw[h9]at h2;exact hh.inj id id' s s' l l' h1 h2 h3 h4 h5
 resRow:=λb hb=>hh'.resRow b (by rw[hs.res];exact .inl hb)
 resNo:=λid s l h1 h2 hr=>by
  rcases out_cases (ι:=ι) (I':=I') hn hl id with ⟨k,_,h3,_⟩|⟨_,_,h3⟩
  ·rw[h3]at h1;exact hh'.resNo k s l h1 h2 (by rw[hs.res];exact .inl hr)
  ·rw[h3]at h1;exact hh.resNo id s l h1 h2 hr
theorem in_VR(hh:HR ι O w){x:AV}{v:Value}(h:VR ι w (upV is O.length x) v):VR (Xb is ι) w x v:=
 VR_down (I':=ι) (λk s hk=>by
  by_cases hlt:k<is.length
  ·rw[YA (A3 hlt)]at hk;simp only[Xb,A3 hlt];exact hk
  ·rw[Ky (by omega)]at hk;have:=hh.lt hk;omega) (λb hb hm=>hb ((Z7 b).1 hm)) rfl h
theorem UH{f:FuncId}{args args0:List AV}{Q:AV->Q1->Prop}(is:List Nat)(hn:is.Nodup)(hlen:τ.length=is.length)(Hs:∀(k i:Nat) (o:Obj),is[k]? =some i->τ[k]? =some o->O[i]? =some (upO is O.length o))
  (hargs:args=args0.map (upV is O.length)) (h:Qo P f args0 τ Q):Qo P f args O λv A'=>∃v0 T',Q v0 T'/\v=upV is O.length v0/\A'=Z3 is O.length O T':=by
 subst hargs;have hl:∀i∈is,i<O.length:=λi hi=>by obtain⟨k,hk⟩:=CQ.1 hi;have hlt:k<τ.length:=(by rw[hlen];exact(AF.1 hk).1);exact(AF.1 (Hs k i τ[k] hk (A3 hlt))).1
 refine⟨h.1,fun ι w cargs hgl hh ha=>BN (h.2 (Xb is ι) w cargs (hgl.mono λb hu _=>⟨λhm=>hu ((Z7 b).1 hm),rfl⟩) (inMap_HR hn hh hlen Hs) ⟨by simpa using ha.1,λi hi=> ?_⟩) ?_⟩
 ·obtain⟨u,h1,h2⟩:=ha.2 i (by simpa using hi);rw[AM]at h2;exact⟨u,h1,in_VR hh h2⟩
 ·rintro e w' ⟨v,T',I',cv,rfl,hq,hv,hh',hs⟩;refine⟨upV is O.length v,Z3 is O.length O T',Xz is O.length ι I',cv,rfl,⟨v,T',hq,rfl,rfl⟩,?_,out_HR hlen hn hl hh hs hh',out_step hlen hn hl hh hs⟩;exact VR_up (λk s hk=>by rw[U6 hn hl];exact hk) (out_un hn hl hs.res) hs.ex.symm hv
end
end Go.Abs
namespace Go.Abs
variable [Gl]
def JL{α β:Type}(f:α->Option β):List α->Option (List β)
 |[]=>some []
 |x::xs=>match f x,JL f xs with
  |some y,some ys=>some (y::ys)
  |_,_=>none
def J5:Nat->Q1->Nat->Cell->Option T
 |_,_,_,.t x=>some x
 |k+1,O,n,.sl r len cap=>if r.id<n then none else match O.at? r with
  |some o=>if r.off+len*o.es<=o.cs.length then (JL (J5 k O n) ((o.cs.drop r.off).take (len*o.es))).map λts=>.imm ts len cap else none
  |none=>none
 |k+1,O,n,.ptr r=>if r.id<n then none else match O.at? r with
  |some o=>(JL (J5 k O n) (o.cs.drop r.off)).map .iptr
  |none=>none
 |k+1,O,n,.clo f rs=>match Nat.beq f YID with|true=>none|false=>(JL (λr=>J5 k O n (.ptr r)) rs).map λts=>.fn f ts
 |_,_,_,_=>none
def ZT(k:Nat)(O:Q1)(n:Nat):Cell->Option Cell
 |.t x=>some (.t x)
 |.ptr r=>if r.id<n then some (.ptr r) else (J5 k O n (.ptr r)).map .t
 |.sl r len cap=>if r.id<n then some (.sl r len cap) else (J5 k O n (.sl r len cap)).map .t
 |.clo f rs=>if rs.all (λr=>decide (r.id<n)) then some (.clo f rs) else (J5 k O n (.clo f rs)).map .t
def frzP(k:Nat)(O:Q1)(n:Nat):Cell⊕List Cell->Option (Cell⊕List Cell)
 |.inl x=>(ZT k O n x).map .inl
 |.inr xs=>(JL (ZT k O n) xs).map .inr
def KJ(k:Nat)(O:Q1)(n:Nat):AV->Option AV
 |.c x=>(ZT k O n x).map .c
 |.agg xs=>(JL (ZT k O n) xs).map .agg
 |.tup xs=>(JL (frzP k O n) xs).map .tup
def frzO(k:Nat)(O:Q1)(n:Nat)(o:Obj):Option Obj:=(JL (ZT k O n) o.cs).map λcs=>{ o with cs:=cs }
def frzH(k:Nat)(O:Q1)(n:Nat):Option Q1:=JL (frzO k O n) (O.take n)
def cut(n:Nat)(ι:Map):Map:=⟨λid=>if id<n then ι id else none,ι.res,ι.ex⟩
section
variable {k n:Nat}{O A':Q1}{ι:Map}{w:World}
theorem Zb{α β:Type}{f:α->Option β}:∀{xs:List α} {ys:List β},JL f xs=some ys->ys.length=xs.length/\∀i (hi:i<ys.length) (hi':i<xs.length),f xs[i]=some ys[i]
 |[],ys,h=>by simp only[JL,A0]at h;subst h;exact⟨rfl,λi hi=>absurd hi (by simp)⟩
 |x::xs,ys,h=>by
  simp only[JL]at h;split at h
  ·rename_i y ys' h1 h2;injection h with h;subst h;obtain⟨h3,h4⟩:=Zb h2;refine⟨by simp[h3],λi hi hi'=> ?_⟩
   cases i with
   |zero=>simpa using h1
   |succ i=>simpa using h4 i (by simpa using hi) (by simpa using hi')
  ·cases h
theorem Y6{id:Nat}{s:Je}(h:cut n ι id=some s):id<n/\ι id=some s:=by
 simp only[cut]at h;split at h
 ·rename_i hl;exact⟨hl,h⟩
 ·cases h
theorem cut_un{b:Nat}(h:ι.un b):(cut n ι).un b:=by
 rintro(⟨id,s,l,h1,h2,rfl⟩|hr)
 ·exact h (.inl ⟨id,s,l,(Y6 h1).2,h2,rfl⟩)
 ·exact h (.inr hr)
theorem cut_freed(h:HR ι O w){id:Nat}{s:Je}{l:Loc}(hid:n<=id)(hs:ι id=some s)(hl:s.loc=some l):(cut n ι).un l.blk:=by
 rintro(⟨id',s',l',h1,h2,h3⟩|hr)
 ·obtain⟨h4,h5⟩:=Y6 h1;have:=h.inj id' id s' s l' l h5 hs h2 hl h3;omega
 ·exact h.resNo id s l hs hl hr
theorem cut_ref{r:Ref}{ok:Je->Prop}(hlt:r.id<n)(h:J6 ι r ok):J6 (cut n ι) r ok:=by obtain⟨s,h1,h2⟩:=h;exact⟨s,by simp only[cut,hlt,Ai];exact h1,h2⟩
theorem We(h:HR ι O w):∀{k:Nat} {c:Cell} {t:T} {v:Value},CR ι w c v->J5 k O n c=some t->TR (cut n ι).un w t v
 |k,.t x,t,v,hc,hf=>by have:t=x:=(by cases k<;>(simp only[J5,A0]at hf;exact hf.symm));subst this;exact TR.mono hc λb hb _=>⟨cut_un hb,rfl⟩
 |0,.ptr r,t,v,hc,hf=>by simp[J5]at hf
 |0,.sl r len cap,t,v,hc,hf=>by simp[J5]at hf
 |0,.clo f rs,t,v,hc,hf=>by simp[J5]at hf
 |k+1,.sl r len cap,t,v,hc,hf=>by
  simp only[J5]at hf;split at hf
  ·cases hf
  ·rename_i hid;split at hf
   ·rename_i o ho;split at hf
    ·rename_i hsz;rw[A2]at hf;obtain⟨ts,hts,rfl⟩:=hf;obtain⟨hl1,hl2⟩:=Zb hts;obtain⟨a,c,rfl,h0,href⟩:=hc;obtain⟨s,hs,_,_,hor,hok⟩:=h.ref ho href;obtain⟨h1,h2,h3⟩:=hok
     cases hloc:s.loc with
     |none=>rw[hloc]at h3;obtain⟨rfl,rfl,_⟩:=h3;have:ts=[]:=AN.1 (by rw[hl1];simp);subst this;exact .imm0 cap a 0 h2
     |some l=>rw[hloc]at h3;obtain⟨rfl,h4,h5⟩:=h3;have hrow:=((hor.row hloc).drop r.off).take (len*o.es);have hb:=hor.2.2;rw[hloc]at hb;obtain⟨⟨cells,elem,h6,_⟩,_⟩:=hb;obtain⟨g,hg⟩:∃g:Nat->Value,∀i (hi:i<ts.length),w.cell? ⟨l.blk,l.sh+r.off+i,none⟩=some (g i)/\TR (cut n ι).un w ts[i] (g i):=(by refine⟨λi=>(w.cell? ⟨l.blk,l.sh+r.off+i,none⟩).getD undef,λi hi=> ?_⟩;obtain⟨u,h7,h8⟩:=hrow i (by rw[<-hl1];exact hi);simp only[h7,Al,Ak];exact We h h8 (hl2 i hi (by rw[<-hl1];exact hi)));exact .imm ts len cap l.blk (l.sh+r.off) c g (cut_freed h (by omega) hs hloc) ⟨cells,elem,_,h6⟩ h2 h1 (λi hi=>(hg i hi).1) (λi hi=>(hg i hi).2)
    ·cases hf
   ·cases hf
 |k+1,.ptr r,t,v,hc,hf=>by
  simp only[J5]at hf;split at hf
  ·cases hf
  ·rename_i hid;split at hf
   ·rename_i o ho;rw[A2]at hf;obtain⟨ts,hts,rfl⟩:=hf;obtain⟨hl1,hl2⟩:=Zb hts;obtain⟨a,rfl,href⟩:=hc;obtain⟨s,hs,_,_,hor,l,hloc,e⟩:=h.ref ho href;injection e with e;subst e;have hrow:=(hor.row hloc).drop r.off;have hb:=hor.2.2;rw[hloc]at hb;obtain⟨⟨cells,elem,h6,_⟩,_⟩:=hb;obtain⟨g,hg⟩:∃g:Nat->Value,∀i (hi:i<ts.length),w.cell? ⟨l.blk,l.sh+r.off+i,none⟩=some (g i)/\TR (cut n ι).un w ts[i] (g i):=(by refine⟨λi=>(w.cell? ⟨l.blk,l.sh+r.off+i,none⟩).getD undef,λi hi=> ?_⟩;obtain⟨u,h7,h8⟩:=hrow i (by rw[<-hl1];exact hi);simp only[h7,Al,Ak];exact We h h8 (hl2 i hi (by rw[<-hl1];exact hi)));exact .iptr ts l.blk (l.sh+r.off) g (cut_freed h (by omega) hs hloc) ⟨cells,elem,_,h6⟩ (λi hi=>(hg i hi).1) (λi hi=>(hg i hi).2)
   ·cases hf
 |k+1,.clo f rs,t,v,hc,hf=>by
  simp only[J5]at hf;split at hf
  ·cases hf
  rename_i hy;rw[A2]at hf;obtain⟨ts,hts,rfl⟩:=hf;obtain⟨hl1,hl2⟩:=Zb hts;obtain⟨arr,rfl,h1,h2⟩:=cloR.no hc (λe=>by subst e;simp at hy);refine .fn f ts arr (by rw[h1,hl1]) λi hi=> ?_;obtain⟨a,h3,h4⟩:=h2 i (by rw[<-hl1];exact hi);exact We h (c:=.ptr rs[i]) ⟨a,h3,h4⟩ (hl2 i hi (by rw[<-hl1];exact hi))
theorem Uv(h:HR ι O w){c c':Cell}{v:Value}(hc:CR ι w c v)(hf:ZT k O n c=some c'):CR (cut n ι) w c' v:=by
 have tree:∀{c:Cell},CR ι w c v->(J5 k O n c).map Cell.t=some c'->CR (cut n ι) w c' v:=λ{c} hc hf=>by rw[A2]at hf;obtain⟨t,h1,rfl⟩:=hf;exact We h hc h1
 cases c with
 |t x=>simp only[ZT,A0]at hf;subst hf;exact TR.mono hc λb hb _=>⟨cut_un hb,rfl⟩
 |ptr r=>
  simp only[ZT]at hf;split at hf
  ·rename_i hlt;injection hf with hf;subst hf;obtain⟨a,e,h1⟩:=hc;exact⟨a,e,cut_ref hlt h1⟩
  ·exact tree hc hf
 |sl r len cap=>
  simp only[ZT]at hf;split at hf
  ·rename_i hlt;injection hf with hf;subst hf;obtain⟨a,c,e,h0,h1⟩:=hc;exact⟨a,c,e,h0,cut_ref hlt h1⟩
  ·exact tree hc hf
 |clo f rs=>
  simp only[ZT]at hf;split at hf
  ·rename_i hlt;injection hf with hf;subst hf;refine cloR.imp hc rfl rfl λ_ i hi _ a h4=>cut_ref ?_ h4;rw[Bk]at hlt;simpa using hlt rs[i] (AJ hi)
  ·exact tree hc hf
theorem frz_agg(h:HR ι O w){xs ys:List Cell}{v:Value}(ha:Jj ι w xs v)(hf:JL (ZT k O n) xs=some ys):Jj (cut n ι) w ys v:=by obtain⟨arr,e,h1,h2⟩:=ha;obtain⟨hl1,hl2⟩:=Zb hf;refine⟨arr,e,by rw[h1,hl1],λi hi=> ?_⟩;obtain⟨u,h3,h4⟩:=h2 i (by rw[<-hl1];exact hi);exact⟨u,h3,Uv h h4 (hl2 i hi (by rw[<-hl1];exact hi))⟩
theorem frzV_ok(h:HR ι O w){x y:AV}{v:Value}(hv:VR ι w x v)(hf:KJ k O n x=some y):VR (cut n ι) w y v:=by
 cases x with
 |c x=>simp only[KJ,A2]at hf;obtain⟨c,h1,rfl⟩:=hf;exact Uv h hv h1
 |agg xs=>simp only[KJ,A2]at hf;obtain⟨c,h1,rfl⟩:=hf;exact frz_agg h hv h1
 |tup xs=>
  simp only[KJ,A2]at hf;obtain⟨ys,h1,rfl⟩:=hf;obtain⟨hl1,hl2⟩:=Zb h1;obtain⟨arr,e,h2,h3⟩:=hv;refine⟨arr,e,by rw[h2,hl1],λi hi=> ?_⟩;obtain⟨u,h4,h5⟩:=h3 i (by rw[<-hl1];exact hi);refine⟨u,h4,?_⟩;have h6:=hl2 i hi (by rw[<-hl1];exact hi);generalize xs[i]'(by rw[<-hl1];exact hi)=y at h5 h6
  cases y with
  |inl x=>simp only[frzP,A2]at h6;obtain⟨c,h7,h8⟩:=h6;rw[<-h8];exact Uv h h5 h7
  |inr x=>simp only[frzP,A2]at h6;obtain⟨c,h7,h8⟩:=h6;rw[<-h8];exact frz_agg h h5 h7
theorem frzH_ok(h:HR ι O w)(hf:frzH k O n=some A'):HR (cut n ι) A' w where
 obj:=λid s hs=>by
  obtain⟨hlt,hs⟩:=Y6 hs;obtain⟨o,h1,h2,h3,h4⟩:=h.obj id s hs;obtain⟨hl1,hl2⟩:=Zb hf;have hlt2:id<O.length:=(AF.1 h1).1;have hlt3:id<(O.take n).length:=(by rw[Bb];omega);have hlt4:id<A'.length:=(by rw[hl1];exact hlt3);have h5:=hl2 id hlt4 hlt3;have ho:(O.take n)[id]=o:=(by rw[List.getElem_take];exact(AF.1 h1).2);rw[ho]at h5;simp only[frzO,A2]at h5;obtain⟨cs,h6,h7⟩:=h5;obtain⟨hm1,hm2⟩:=Zb h6;refine⟨A'[id],A3 hlt4,by rw[<-h7];exact h2,by rw[<-h7];exact h3,?_⟩;rw[<-h7]
  cases hl:s.loc with
  |none=>rw[hl]at h4;rw[h4]at hm1;exact AN.1 (by simpa using hm1)
  |some l=>rw[hl]at h4;refine⟨h4.1,by simp only[hm1];exact h4.2.1,λi hi=> ?_⟩;obtain⟨v,h8,h9⟩:=h4.2.2 i (by rw[<-hm1];exact hi);exact⟨v,h8,Uv h h9 (hm2 i hi (by rw[<-hm1];exact hi))⟩
 inj:=λid id' s s' l l' h1 h2 h3 h4 h5=>h.inj id id' s s' l l' (Y6 h1).2 (Y6 h2).2 h3 h4 h5
 resRow:=h.resRow
 resNo:=λid s l h1 h2=>h.resNo id s l (Y6 h1).2 h2
end
end Go.Abs
namespace Go.Abs
variable [Gl]
def Qe(N n:Nat)(r:Q0)(O:Q1)(r':Q0)(A':Q1):Prop:=
 ∀ι w a,HR ι O w->Qn N ι w r a->∃I',HR I' A' w/\Qn N I' w r' a/\∀I0 S0 w0,HR I0 S0 w0->S0.length<=n->Step I0 S0 w0 ι O w->Step I0 S0 w0 I' A' w
def Qm(r r':Q0):Prop:=∀t v,r'.get t=some v->r.get t=some v
def FrzR(k:Nat)(O:Q1)(n:Nat)(r:Q0):Q0->Prop
 |[]=>True
 |(t,v)::l=>(∃u,r.get t=some u/\KJ k O n u=some v)/\FrzR k O n r l
def SubL(r:Q0):Q0->Prop
 |[]=>True
 |(t,v)::l=>r.get t=some v/\SubL r l
section
variable {P:Program}{N:Nat}{ro:Option Nat}
theorem SubL.sub{r:Q0}:∀{r':Q0},SubL r r'->Qm r r'
 |[],_=>λt v h=>by simp[Q0.get]at h
 |(k,u)::l,h=>λt v ht=>by
  simp only[Q0.get]at ht;split at ht
  ·rename_i e;subst e;injection ht with ht;subst ht;exact h.1
  ·exact SubL.sub h.2 t v ht
theorem FrzR.get{k:Nat}{O:Q1}{n:Nat}{r:Q0}:∀{r':Q0},FrzR k O n r r'->∀t v,r'.get t=some v->∃u,r.get t=some u/\KJ k O n u=some v
 |[],_=>λt v h=>by simp[Q0.get]at h
 |(k,u)::l,h=>λt v ht=>by
  simp only[Q0.get]at ht;split at ht
  ·rename_i e;subst e;injection ht with ht;subst ht;exact h.1
  ·exact FrzR.get h.2 t v ht
theorem Y9.f{r r':Q0}{O A':Q1}(h:Y9 N r O r' A')(n:Nat):Qe N n r O r' A':=fun ι w a hh hr=>by obtain⟨I',h1,h2,h3⟩:=h ι w a hh hr;exact⟨I',h1,h2,λ_ _ _ _ _ hs=>hs.trans h3⟩
theorem Qe.trans{n:Nat}{r r' r'':Q0}{O A' S'':Q1}(h:Qe N n r O r' A')(h':Qe N n r' A' r'' S''):Qe N n r O r'' S'':=fun ι w a hh hr=>by obtain⟨I',h1,h2,h3⟩:=h ι w a hh hr;obtain⟨i'',h4,h5,h6⟩:=h' I' w a h1 h2;exact⟨i'',h4,h5,λI0 S0 w0 h0 hn hs=>h6 I0 S0 w0 h0 hn (h3 I0 S0 w0 h0 hn hs)⟩
theorem Y9.trans{r r' r'':Q0}{O A' S'':Q1}(h:Y9 N r O r' A')(h':Y9 N r' A' r'' S''):Y9 N r O r'' S'':=fun ι w a hh hr=>by obtain⟨I',h1,h2,h3⟩:=h ι w a hh hr;obtain⟨i'',h4,h5,h6⟩:=h' I' w a h1 h2;exact⟨i'',h4,h5,h3.trans h6⟩
theorem Y9.sub{r r':Q0}{O:Q1}(h:Qm r r'):Y9 N r O r' O:=fun ι w _ hh hr=>⟨ι,hh,hr.sub h,Step.refl ι O w⟩
theorem UG{r:Q0}{O:Q1}{t:Nat}(es:Nat)(h:r.get t=some (.c (.t (.imm [] 0 (some 0))))):Y9 N r O (r.set t (.c (.sl ⟨O.length,0,0⟩ 0 none))) (O++[{ cs:=[],es:=es }]):=fun ι w a hh hr=>by
 have hst:Step ι O w (ι.push O.length ⟨none,es,0⟩) (O++[{ cs:=[],es:=es }]) w:={
   len:=by simp
   size:=A9 _
   os:=rfl
   out:=rfl
   keep:=λid s' hs'=>⟨s',by rw[Map.Qd _ _ (Bm (hh.lt hs'))];exact hs',A9 _,λ_=>rfl⟩
   none:=λid hid hn=>by rw[Map.Qd _ _ (Bm hid)];exact hn
   new:=λid s' l' h1 h2=>by
     by_cases e:id=O.length
     · subst e
       rw[Map.QQ]at h1;injection h1 with h1;subst h1;cases h2
     · rw[Map.Qd _ _ e]at h1
       exact .inr ⟨id,s',l',h1,h2,rfl⟩
   res:=rfl
   ex:=rfl
   resKeep:=λ_ _=>rfl
   frame:=λ_ _ _=>rfl }
 refine⟨ι.push O.length ⟨none,es,0⟩,⟨λid s h1=> ?_,λid id' s s' l l' h1 h2 h3 h4 h5=> ?_,hh.resRow,λid s l h1 h2 hr=> ?_⟩,⟨hr.size,hr.low,λt' v hv=> ?_,hr.gl.step hst⟩,hst⟩
 · by_cases e1:id=O.length
   · subst e1
     rw[Map.QQ]at h1;injection h1 with h1;subst h1;exact⟨_,by simp;rfl,rfl,rfl,rfl⟩
   · rw[Map.Qd _ _ e1]at h1
     obtain⟨o',h2,h3⟩:=hh.obj id s h1;exact⟨o',by rw[AK (hh.lt h1)];exact h2,h3.congr hst (λl hl=>rfl)⟩
 · by_cases e1:id=O.length
   · subst e1
     rw[Map.QQ]at h1;injection h1 with h1;subst h1;cases h3
   · by_cases e2:id'=O.length
     · subst e2
       rw[Map.QQ]at h2;injection h2 with h2;subst h2;cases h4
     · rw[Map.Qd _ _ e1]at h1
       rw[Map.Qd _ _ e2]at h2;exact hh.inj id id' s s' l l' h1 h2 h3 h4 h5
 · by_cases e1:id=O.length
   · subst e1
     rw[Map.QQ]at h1;injection h1 with h1;subst h1;cases h2
   · rw[Map.Qd _ _ e1]at h1
     exact hh.resNo id s l h1 h2 hr
 · by_cases e:t=t'
   · subst e
     rw[Q0.QO]at hv;injection hv with hv;subst hv;have hv:=hr.get t _ h
     have ref:∀(ad:Option Addr),J6 (ι.push O.length ⟨none,es,0⟩) ⟨O.length,0,0⟩ (slOk 0 0 none ad 0):=λad=>
       ⟨⟨none,es,0⟩,Map.QQ _ _ _,A9 _,λ_=>⟨A9 _,trivial,rfl,rfl,rfl⟩⟩
     have elk:lk (ι.push O.length ⟨none,es,0⟩) w a t=lk ι w a t:=rfl;rw[elk];have hv':TR ι.un w (.imm [] 0 (some 0)) (lk ι w a t):=hv;generalize lk ι w a t=u at hv'
     cases hv' with
     |imm0 cap ad c hc=>have:c=0:=hc;subst this;exact⟨ad,0,rfl,.inl rfl,ref ad⟩
     |imm cs len cap b off c f h1 h2 h3 h4=>have:c=0:=h3;subst this;exact⟨_,0,rfl,.inl rfl,ref _⟩
   · rw[Q0.Qj _ _ e]at hv
     exact(hr.get t' v hv).step hst
theorem Qo.mono{f:FuncId}{args:List AV}{O:Q1}{Q Q':AV->Q1->Prop}(h:Qo P f args O Q)(hq:∀v A',Q v A'->Q' v A'):Qo P f args O Q':=
 ⟨h.1,fun ι w cargs hgl hh ha=>BN (h.2 ι w cargs hgl hh ha) λe w' ⟨v,A',I',cv,h1,h2,h3⟩=>⟨v,A',I',cv,h1,hq _ _ h2,h3⟩⟩
def Cell.isT:Cell->Bool
 |.t _=>true
 |_=>false
def AV.isT:AV->Bool
 |.c x=>x.isT
 |.agg xs=>xs.all Cell.isT
 |.tup xs=>xs.all fun|.inl x=>x.isT|.inr xs=>xs.all Cell.isT
theorem V6{is:List Nat}{n:Nat}{c:Cell}(h:c.isT=true):upC is n c=c:=by cases c<;>first|rfl|simp[Cell.isT]at h
theorem U0{is:List Nat}{n:Nat}:∀{cs:List Cell},cs.all Cell.isT=true->cs.map (upC is n)=cs
 |[],_=>rfl
 |c::cs,h=>by simp only[CO,AC]at h;simp[V6 h.1,U0 h.2]
theorem V5{is:List Nat}{n:Nat}{v:AV}(h:v.isT=true):upV is n v=v:=by
 cases v with
 |c x=>simp only[upV,V6 h]
 |agg xs=>simp only[upV,U0 h]
 |tup xs=>
  simp only[upV];congr 1;have:∀{ys:List (Cell⊕List Cell)},(ys.all fun|.inl x=>x.isT|.inr xs=>xs.all Cell.isT)=true->ys.map (upP is n)=ys:=λ{ys} hy=>by
   induction ys with
   |nil=>rfl
   |cons y ys ih=>
    simp only[CO,AC]at hy;rw[AQ,ih hy.2]
    cases y with
    |inl x=>simp only[upP,V6 hy.1]
    |inr xs=>simp only[upP,U0 hy.1]
  exact this h
theorem Vg{is:List Nat}{n:Nat}:∀{vs:List AV},vs.all AV.isT=true->vs.map (upV is n)=vs
 |[],_=>rfl
 |v::vs,h=>by simp only[CO,AC]at h;simp[V5 h.1,Vg h.2]
theorem fn_any{f:FuncId}{args:List AV}{O:Q1}{Q:AV->Prop}(ha:args.all AV.isT=true)(h:Qo P f args [] λv A'=>v.isT=true/\A'=[]/\Q v):Qo P f args O λv A'=>Q v/\A'=O:=by have:=UH (O:=O) (args:=args) [] List.nodup_nil rfl (λk i o hk=>by simp at hk) (Vg ha).symm h;refine this.mono λv A' ⟨v0,T',⟨h1,h2,h3⟩,h4,h5⟩=> ?_;subst h2;rw[V5 h1]at h4;subst h4;exact⟨h3,by rw[h5];simp[Z3,Jc]⟩
end
end Go.Abs
namespace Go.Abs
variable [Gl]
section
variable {P:Program}{N:Nat}{ro:Option Nat}
end
end Go.Abs
namespace Go.Abs
variable [Gl]
section
variable {P:Program}{N:Nat}{ro:Option Nat}
end
end Go.Abs
namespace Go.Abs
variable [Gl]
section
variable (P:Program)(r:Q0)(O:Q1)(K:Option AV->Q1->List Nat->List Nat->Prop)(tg:Tag K)
end
end Go.Abs
namespace Go.Abs
variable [Gl]
section
variable {P:Program}
end
end Go.Abs
