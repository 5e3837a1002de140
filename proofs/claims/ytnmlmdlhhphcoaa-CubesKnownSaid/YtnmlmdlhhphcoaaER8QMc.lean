/- A part of the proof. -/
import Derived.Test.YtnmlmdlhhphcoaaER8QAbsO
set_option linter.all false
namespace Go.Abs
variable [Gl]
def XV(is:List Nat)(n k:Nat):Nat:=match is[k]? with
 |some i=>i
 |none=>n+(k - is.length)
def upR(is:List Nat)(n:Nat)(r:Ref):Ref:={ r with id:=XV is n r.id }
def upC(is:List Nat)(n:Nat):Cell->Cell
 |.t x=>.t x
 |.ptr r=>.ptr (upR is n r)
 |.sl r l c=>.sl (upR is n r) l c
 |.clo f rs=>.clo f (rs.map (upR is n))
def upP(is:List Nat)(n:Nat):Cell⊕List Cell->Cell⊕List Cell
 |.inl x=>.inl (upC is n x)
 |.inr xs=>.inr (xs.map (upC is n))
def upV(is:List Nat)(n:Nat):AV->AV
 |.c x=>.c (upC is n x)
 |.agg xs=>.agg (xs.map (upC is n))
 |.tup xs=>.tup (xs.map (upP is n))
def upO(is:List Nat)(n:Nat)(o:Obj):Obj:={ o with cs:=o.cs.map (upC is n) }
def Jm(f:Obj->Obj):List Nat->Q4->Q4->Q4
 |i::is,o::τ,J=>Jm f is τ (J.set i (f o))
 |_,_,J=>J
def Zp(is:List Nat)(n:Nat)(J τ:Q4):Q4:=Jm (upO is n) is τ J++(τ.drop is.length).map (upO is n)
theorem XL(f:Obj->Obj):∀(is:List Nat) (τ J:Q4),(Jm f is τ J).length=J.length
 |[],_,_=>by simp[Jm]
 |_::_,[],_=>by simp[Jm]
 |i::is,o::τ,J=>by simp[Jm,XL f is τ]
theorem UA(f:Obj->Obj):∀(is:List Nat) (τ J:Q4) (id:Nat),id∉is->(Jm f is τ J)[id]? =J[id]?
 |[],_,_,_,_=>by simp[Jm]
 |_::_,[],_,_,_=>by simp[Jm]
 |i::is,o::τ,J,id,h=>by simp only[List.mem_cons,not_or]at h;simp only[Jm];rw[UA f is τ _ id h.2,List.getElem?_set_ne (Ne.symm h.1)]
theorem putAll_at(f:Obj->Obj):∀(is:List Nat) (τ J:Q4),is.Nodup->(∀i∈is,i<J.length)->∀(k i:Nat) (o:Obj),is[k]? =some i->τ[k]? =some o->(Jm f is τ J)[i]? =some (f o)
 |[],_,_,_,_,k,i,o,h,_=>by simp at h
 |_::_,[],_,_,_,k,i,o,_,h=>by simp at h
 |j::is,p::τ,J,hn,hl,k,i,o,h1,h2=>by
  simp only[Jm]
  cases k with
  |zero=>simp only[List.getElem?_cons_zero,Option.some.injEq]at h1 h2;subst h1;subst h2;rw[UA f is τ _ j (List.nodup_cons.1 hn).1,List.getElem?_set_self (hl j (by simp))]
  |succ k=>simp only[List.getElem?_cons_succ]at h1 h2;exact putAll_at f is τ _ (List.nodup_cons.1 hn).2 (λi hi=>by simpa using hl i (by simp[hi])) k i o h1 h2
section
variable {P:Program}{is:List Nat}{J τ T':Q4}{M I':Map}{w w':World}
theorem CR_up{n:Nat}{w:World}(hi:∀k s,M k=some s->I' (XV is n k)=some s)(hu:∀b,M.un b->I'.un b)(hx:I'.ex=M.ex){c:Cell}{v:Value}(h:CR M w c v):CR I' w (upC is n c) v:=by
 have hr:∀{r:Ref} {ok:XK->Prop},Jg M r ok->Jg I' (upR is n r) ok:=λ{r ok} ⟨s,h1,h2,h3⟩=>⟨s,hi _ _ h1,h2,h3⟩
 cases c with
 |t x=>exact TR.mono h λb hb hrow=>⟨hu b hb,rfl⟩
 |ptr r=>obtain⟨a,e,h1⟩:=h;exact⟨a,e,hr h1⟩
 |sl r l c=>obtain⟨a,c,e,h1,h2⟩:=h;exact⟨a,c,e,h1,hr h2⟩
 |clo f rs=>refine cloR.imp (caps':=rs.map (upR is n)) h (by rw[hx]) (by simp) λ_ i hi hi' a h4=> ?_;simp only[List.getElem_map];exact hr h4
theorem CR_down{n:Nat}{w:World}(hi:∀k s,I' (XV is n k)=some s->M k=some s)(hu:∀b,I'.un b->M.un b)(hx:I'.ex=M.ex){c:Cell}{v:Value}(h:CR I' w (upC is n c) v):CR M w c v:=by
 have hr:∀{r:Ref} {ok:XK->Prop},Jg I' (upR is n r) ok->Jg M r ok:=λ{r ok} ⟨s,h1,h2,h3⟩=>⟨s,hi _ _ h1,h2,h3⟩
 cases c with
 |t x=>exact TR.mono h λb hb hrow=>⟨hu b hb,rfl⟩
 |ptr r=>obtain⟨a,e,h1⟩:=h;exact⟨a,e,hr h1⟩
 |sl r l c=>obtain⟨a,c,e,h1,h2⟩:=h;exact⟨a,c,e,h1,hr h2⟩
 |clo f rs=>refine cloR.imp (caps:=rs.map (upR is n)) h (by rw[hx]) (by simp) λ_ i hi hi' a h4=> ?_;simp only[List.getElem_map]at h4;exact hr h4
theorem VI{f:Cell->Cell}{w w':World}(h:∀c v,CR M w c v->CR I' w' (f c) v){xs:List Cell}{v:Value}(ha:Xj M w xs v):Xj I' w' (xs.map f) v:=by obtain⟨arr,e,h1,h2⟩:=ha;refine⟨arr,e,by simpa using h1,λi hi=> ?_⟩;obtain⟨u,h3,h4⟩:=h2 i (by simpa using hi);exact⟨u,h3,by rw[List.getElem_map];exact h _ _ h4⟩
theorem Wy{f:Cell->Cell}{w w':World}(h:∀c v,CR M w (f c) v->CR I' w' c v){xs:List Cell}{v:Value}(ha:Xj M w (xs.map f) v):Xj I' w' xs v:=by obtain⟨arr,e,h1,h2⟩:=ha;refine⟨arr,e,by simpa using h1,λi hi=> ?_⟩;obtain⟨u,h3,h4⟩:=h2 i (by simpa using hi);rw[List.getElem_map]at h4;exact⟨u,h3,h _ _ h4⟩
theorem VR_up{n:Nat}{w:World}(hi:∀k s,M k=some s->I' (XV is n k)=some s)(hu:∀b,M.un b->I'.un b)(hx:I'.ex=M.ex){x:AV}{v:Value}(h:VR M w x v):VR I' w (upV is n x) v:=by
 have hc:∀c v,CR M w c v->CR I' w (upC is n c) v:=λc v=>CR_up hi hu hx
 cases x with
 |c x=>exact hc _ _ h
 |agg xs=>exact VI hc h
 |tup xs=>
  obtain⟨arr,e,h1,h2⟩:=h;refine⟨arr,e,by simpa using h1,λi hi=> ?_⟩;obtain⟨u,h3,h4⟩:=h2 i (by simpa using hi);refine⟨u,h3,?_⟩;rw[List.getElem_map];generalize xs[i]'(by simpa using hi)=y at h4⊢
  cases y with
  |inl x=>exact hc _ _ h4
  |inr xs=>exact VI hc h4
theorem VR_down{n:Nat}{w:World}(hi:∀k s,I' (XV is n k)=some s->M k=some s)(hu:∀b,I'.un b->M.un b)(hx:I'.ex=M.ex){x:AV}{v:Value}(h:VR I' w (upV is n x) v):VR M w x v:=by
 have hc:∀c v,CR I' w (upC is n c) v->CR M w c v:=λc v=>CR_down hi hu hx
 cases x with
 |c x=>exact hc _ _ h
 |agg xs=>exact Wy hc h
 |tup xs=>
  obtain⟨arr,e,h1,h2⟩:=h;refine⟨arr,e,by simpa using h1,λi hi=> ?_⟩;obtain⟨u,h3,h4⟩:=h2 i (by simpa using hi);refine⟨u,h3,?_⟩;rw[List.getElem_map]at h4;generalize xs[i]'(by simpa using hi)=y at h4⊢
  cases y with
  |inl x=>exact hc _ _ h4
  |inr xs=>exact Wy hc h4
theorem KJ{n k i:Nat}(h:is[k]? =some i):XV is n k=i:=by simp[XV,h]
theorem UW{n k:Nat}(h:is.length<=k):XV is n k=n+(k - is.length):=by simp[XV,List.getElem?_eq_none h]
def ZJ(is:List Nat)(M:Map):Map:=⟨λk=>match is[k]? with|some i=>M i|none=>none,λb=>M.res b\/∃id s l,id∉is/\M id=some s/\s.loc=some l/\l.blk=b,M.ex⟩
def Zw(is:List Nat)(n:Nat)(M I':Map):Map:=⟨λid=>if id<n then (if id∈is then I' (is.idxOf id) else M id) else I' (is.length+(id - n)),M.res,M.ex⟩
theorem ZT{k:Nat}{s:XK}(h:ZJ is M k=some s):∃i,is[k]? =some i/\M i=some s:=by
 simp only[ZJ]at h;split at h
 ·rename_i i hi;exact⟨i,hi,h⟩
 ·cases h
theorem YB(b:Nat):(ZJ is M).mapped b↔M.mapped b:=by
 constructor
 ·rintro(⟨k,s,l,h1,h2,rfl⟩|h|⟨id,s,l,_,h1,h2,rfl⟩)
  ·obtain⟨i,_,h3⟩:=ZT h1;exact .inl ⟨i,s,l,h3,h2,rfl⟩
  ·exact .inr h
  ·exact .inl ⟨id,s,l,h1,h2,rfl⟩
 ·rintro(⟨id,s,l,h1,h2,rfl⟩|h)
  ·by_cases hm:id∈is
   ·obtain⟨k,hk⟩:=List.mem_iff_getElem?.1 hm;exact .inl ⟨k,s,l,by simp only[ZJ,hk];exact h1,h2,rfl⟩
   ·exact .inr (.inr ⟨id,s,l,hm,h1,h2,rfl⟩)
  ·exact .inr (.inl h)
theorem inMap_HR(hn:is.Nodup)(h:HR M J w)(hlen:τ.length=is.length)(HS:∀(k i:Nat) (o:Obj),is[k]? =some i->τ[k]? =some o->J[i]? =some (upO is J.length o)):HR (ZJ is M) τ w where
 obj:=λk s hk=>by
  obtain⟨i,h1,h2⟩:=ZT hk;obtain⟨o,h3,h4⟩:=h.obj i s h2;have hlt:k<τ.length:=(by rw[hlen];exact(List.getElem?_eq_some_iff.1 h1).1);have h5:=HS k i τ[k] h1 (List.getElem?_eq_getElem hlt);rw[h3]at h5;injection h5 with h5;subst h5;refine⟨τ[k],List.getElem?_eq_getElem hlt,h4.1,h4.2.1,?_⟩;have h6:=h4.2.2
  cases hl:s.loc with
  |none=>rw[hl]at h6;simpa [upO] using h6
  |some l=>
   rw[hl]at h6;refine⟨h6.1,by simpa [upO] using h6.2.1,λj hj=> ?_⟩;obtain⟨v,h7,h8⟩:=h6.2.2 j (by simpa [upO] using hj);refine⟨v,h7,?_⟩;simp only[upO,List.getElem_map]at h8;refine CR_down (I':=M) (n:=J.length) (λk s hk=> ?_) (λb hb=>λhm=>hb ((YB b).1 hm)) rfl h8;by_cases hlt:k<is.length
   ·rw[KJ (List.getElem?_eq_getElem hlt)]at hk;simp only[ZJ,List.getElem?_eq_getElem hlt];exact hk
   ·rw[UW (by omega)]at hk;have:=h.lt hk;omega
 inj:=λk k' s s' l l' h1 h2 h3 h4 h5=>by obtain⟨i,h6,h7⟩:=ZT h1;obtain⟨i',h8,h9⟩:=ZT h2;have e:=h.inj i i' s s' l l' h7 h9 h3 h4 h5;subst e;obtain⟨hk,h6⟩:=List.getElem?_eq_some_iff.1 h6;obtain⟨hk',h8⟩:=List.getElem?_eq_some_iff.1 h8;exact(List.getElem_inj hn).1 (h6.trans h8.symm)
 resRow:=λb hb=>by
  rcases hb with hb|⟨id,s,l,_,h1,h2,rfl⟩
  ·exact h.resRow b hb
  ·obtain⟨o,_,_,_,h3⟩:=h.obj id s h1;rw[h2]at h3;obtain⟨⟨c,e,h4,_⟩,_⟩:=h3;exact⟨c,e,_,h4⟩
 resNo:=λk s l h1 h2 hr=>by
  obtain⟨i,h3,h4⟩:=ZT h1;rcases hr with hr|⟨id,s',l',hid,h5,h6,h7⟩
  ·exact h.resNo i s l h4 h2 hr
  ·have:=h.inj id i s' s l' l h5 h4 h6 h2 h7;subst this;exact hid (List.mem_of_getElem? h3)
end
end Go.Abs
namespace Go.Abs
variable [Gl]
section
variable {P:Program}{is:List Nat}{J τ T':Q4}{M I':Map}{w w':World}
theorem VW(hn:is.Nodup)(hl:∀i∈is,i<J.length)(k:Nat):Zw is J.length M I' (XV is J.length k)=I' k:=by
 by_cases h:k<is.length
 ·have hk:is[k]? =some is[k]:=List.getElem?_eq_getElem h;rw[KJ hk];have hm:is[k]∈is:=List.getElem_mem h;have hi:is.idxOf is[k]=k:=List.Nodup.idxOf_getElem hn k h;simp only[Zw,hl _ hm,hm,if_true,hi]
 ·rw[UW (by omega)];have h1:¬J.length+(k - is.length)<J.length:=(by omega);have h2:is.length+(J.length+(k - is.length) - J.length)=k:=(by omega);simp only[Zw,h1,if_false,h2]
theorem out_cases(hn:is.Nodup)(hl:∀i∈is,i<J.length)(id:Nat):(∃k,XV is J.length k=id/\Zw is J.length M I' id=I' k/\(id<J.length->is[k]? =some id)/\(J.length<=id->k=is.length+(id - J.length)))\/(id<J.length/\id∉is/\Zw is J.length M I' id=M id):=by
 by_cases h:id<J.length
 ·by_cases hm:id∈is
  ·obtain⟨k,hk⟩:=List.mem_iff_getElem?.1 hm;refine .inl ⟨k,KJ hk,?_,λ_=>hk,λh'=>by omega⟩;have:=VW (M:=M) (I':=I') hn hl k;rw[KJ hk]at this;exact this
  ·exact .inr ⟨h,hm,by simp only[Zw,h,hm,if_true,if_false]⟩
 ·refine .inl ⟨is.length+(id - J.length),?_,?_,λh'=>by omega,λ_=>rfl⟩
  ·rw[UW (by omega)];omega
  ·simp only[Zw,h,if_false]
theorem backH_length:(Zp is J.length J T').length=J.length+(T'.length - is.length):=by simp[Zp,XL]
theorem backH_up(hn:is.Nodup)(hl:∀i∈is,i<J.length){k:Nat}{o:Obj}(ho:T'[k]? =some o):(Zp is J.length J T')[XV is J.length k]? =some (upO is J.length o):=by
 by_cases h:k<is.length
 ·have hk:is[k]? =some is[k]:=List.getElem?_eq_getElem h;rw[KJ hk];unfold Zp;rw[List.getElem?_append_left (by rw[XL];exact hl _ (List.getElem_mem h))];exact putAll_at _ is T' J hn hl k _ o hk ho
 ·rw[UW (by omega)];unfold Zp;rw[List.getElem?_append_right (by rw[XL];omega),XL,List.getElem?_map,List.getElem?_drop];have:is.length+(J.length+(k - is.length) - J.length)=k:=(by omega);rw[this,ho];rfl
theorem backH_not{id:Nat}(h:id∉is)(hlt:id<J.length):(Zp is J.length J T')[id]? =J[id]? :=by unfold Zp;rw[List.getElem?_append_left (by rw[XL];exact hlt)];exact UA _ is T' J id h
theorem out_un(hn:is.Nodup)(hl:∀i∈is,i<J.length)(hres:I'.res=(ZJ is M).res)(b:Nat)(h:I'.un b):(Zw is J.length M I').un b:=by
 rintro(⟨id,s,l,h1,h2,rfl⟩|hr)
 ·rcases out_cases (M:=M) (I':=I') hn hl id with ⟨k,_,h3,_⟩|⟨_,h3,h4⟩
  ·rw[h3]at h1;exact h (.inl ⟨k,s,l,h1,h2,rfl⟩)
  ·rw[h4]at h1;exact h (.inr (by rw[hres];exact .inr ⟨id,s,l,h3,h1,h2,rfl⟩))
 ·exact h (.inr (by rw[hres];exact .inl hr))
theorem out_step(hlen:τ.length=is.length)(hn:is.Nodup)(hl:∀i∈is,i<J.length)(hh:HR M J w)(hs:Step (ZJ is M) τ w I' T' w'):Step M J w (Zw is J.length M I') (Zp is J.length J T') w' where
 len:=by rw[backH_length];omega
 size:=hs.size
 os:=hs.os
 out:=hs.out
 keep:=λid s h=>by
  have hlt:=hh.lt h;rcases out_cases (M:=M) (I':=I') hn hl id with ⟨k,_,h3,h4,_⟩|⟨_,_,h4⟩
  ·have:ZJ is M k=some s:=(by simp only[ZJ,h4 hlt];exact h);obtain⟨s',h5,h6⟩:=hs.keep k s this;exact⟨s',by rw[h3];exact h5,h6⟩
  ·exact⟨s,by rw[h4];exact h,Nat.le_refl _,λ_=>rfl⟩
 none:=λid hlt h=>by
  rcases out_cases (M:=M) (I':=I') hn hl id with ⟨k,_,h3,h4,_⟩|⟨_,_,h4⟩
  ·have hk:=h4 hlt;have hkt:k<τ.length:=(by rw[hlen];exact(List.getElem?_eq_some_iff.1 hk).1);have:ZJ is M k=none:=(by simp only[ZJ,hk];exact h);rw[h3];exact hs.none k hkt this
  ·rw[h4];exact h
 new:=λid s' l' h1 h2=>by
  rcases out_cases (M:=M) (I':=I') hn hl id with ⟨k,_,h3,_⟩|⟨_,_,h4⟩
  ·rw[h3]at h1;rcases hs.new k s' l' h1 h2 with h5|⟨k',s,l,h5,h6,h7⟩
   ·exact .inl h5
   ·obtain⟨i,_,h8⟩:=ZT h5;exact .inr ⟨i,s,l,h8,h6,h7⟩
  ·rw[h4]at h1;exact .inr ⟨id,s',l',h1,h2,rfl⟩
 res:=rfl
 ex:=rfl
 resKeep:=λb hb=>hs.resKeep b (.inl hb)
 frame:=λb hb hu=>hs.frame b hb λhm=>hu ((YB b).1 hm)
theorem out_OR(hn:is.Nodup)(hl:∀i∈is,i<J.length)(hres:I'.res=(ZJ is M).res)(hex:I'.ex=(ZJ is M).ex){o:Obj}{s:XK}(h:OR I' w' o s):OR (Zw is J.length M I') w' (upO is J.length o) s:=by
 refine⟨h.1,h.2.1,?_⟩;have h3:=h.2.2
 cases hl':s.loc with
 |none=>rw[hl']at h3;simp[upO,h3]
 |some l=>rw[hl']at h3;refine⟨h3.1,by simpa [upO] using h3.2.1,λj hj=> ?_⟩;obtain⟨v,h7,h8⟩:=h3.2.2 j (by simpa [upO] using hj);refine⟨v,h7,?_⟩;simp only[upO,List.getElem_map];exact CR_up (λk s hk=>by rw[VW hn hl];exact hk) (out_un hn hl hres) hex.symm h8
theorem out_HR(hlen:τ.length=is.length)(hn:is.Nodup)(hl:∀i∈is,i<J.length)(hh:HR M J w)(hs:Step (ZJ is M) τ w I' T' w')(hh':HR I' T' w'):HR (Zw is J.length M I') (Zp is J.length J T') w' where
 obj:=λid s h=>by
  rcases out_cases (M:=M) (I':=I') hn hl id with ⟨k,h2,h3,_⟩|⟨hlt,hm,h4⟩
  ·rw[h3]at h;obtain⟨o,h5,h6⟩:=hh'.obj k s h;refine⟨upO is J.length o,?_,out_OR hn hl hs.res hs.ex h6⟩;rw[<-h2];exact backH_up hn hl h5
  ·rw[h4]at h;obtain⟨o,h5,h6⟩:=hh.obj id s h;refine⟨o,by rw[backH_not hm hlt];exact h5,h6.congr (out_step hlen hn hl hh hs) λl hl'=> ?_⟩;exact hs.resKeep _ (.inr ⟨id,s,l,hm,h,hl',rfl⟩)
 inj:=λid id' s s' l l' h1 h2 h3 h4 h5=>by
  have mix:∀{id id':Nat} {s s':XK} {l l':Loc} {k:Nat},I' k=some s->s.loc=some l->id'∉is->M id'=some s'->s'.loc=some l'->l.blk=l'.blk->False:=λ{id id' s s' l l' k} h1 h2 h3 h4 h5 h6=>(by refine hh'.resNo k s l h1 h2 ?_;rw[hs.res];exact .inr ⟨id',s',l',h3,h4,h5,h6.symm⟩);rcases out_cases (M:=M) (I':=I') hn hl id with ⟨k,h6,h7,_⟩|⟨_,hm,h7⟩<;>rcases out_cases (M:=M) (I':=I') hn hl id' with ⟨k',h8,h9,_⟩|⟨_,hm',h9⟩
  ·rw[h7]at h1;rw[h9]at h2;have:=hh'.inj k k' s s' l l' h1 h2 h3 h4 h5;rw[<-h6,<-h8,this]
  ·rw[h7]at h1;rw[h9]at h2;exact(mix (id:=id) h1 h3 hm' h2 h4 h5).elim
  ·rw[h7]at h1;rw[h9]at h2;exact(mix (id:=id) h2 h4 hm h1 h3 h5.symm).elim
  ·rw[h7]at h1;rw[h9]at h2;exact hh.inj id id' s s' l l' h1 h2 h3 h4 h5
 resRow:=λb hb=>hh'.resRow b (by rw[hs.res];exact .inl hb)
 resNo:=λid s l h1 h2 hr=>by
  rcases out_cases (M:=M) (I':=I') hn hl id with ⟨k,_,h3,_⟩|⟨_,_,h3⟩
  ·rw[h3]at h1;exact hh'.resNo k s l h1 h2 (by rw[hs.res];exact .inl hr)
  ·rw[h3]at h1;exact hh.resNo id s l h1 h2 hr
theorem in_VR(hh:HR M J w){x:AV}{v:Value}(h:VR M w (upV is J.length x) v):VR (ZJ is M) w x v:=
 VR_down (I':=M) (λk s hk=>by
  by_cases hlt:k<is.length
  ·rw[KJ (List.getElem?_eq_getElem hlt)]at hk;simp only[ZJ,List.getElem?_eq_getElem hlt];exact hk
  ·rw[UW (by omega)]at hk;have:=hh.lt hk;omega) (λb hb hm=>hb ((YB b).1 hm)) rfl h
theorem Wf{f:FuncId}{args args0:List AV}{Q:AV->Q4->Prop}(is:List Nat)(hn:is.Nodup)(hlen:τ.length=is.length)(HS:∀(k i:Nat) (o:Obj),is[k]? =some i->τ[k]? =some o->J[i]? =some (upO is J.length o))
  (hargs:args=args0.map (upV is J.length)) (h:Jl P f args0 τ Q):Jl P f args J λv S'=>∃v0 T',Q v0 T'/\v=upV is J.length v0/\S'=Zp is J.length J T':=by
 subst hargs;have hl:∀i∈is,i<J.length:=λi hi=>by obtain⟨k,hk⟩:=List.mem_iff_getElem?.1 hi;have hlt:k<τ.length:=(by rw[hlen];exact(List.getElem?_eq_some_iff.1 hk).1);exact(List.getElem?_eq_some_iff.1 (HS k i τ[k] hk (List.getElem?_eq_getElem hlt))).1
 refine⟨h.1,λM w cargs hgl hh ha=>CallsIn.mono (h.2 (ZJ is M) w cargs (hgl.mono λb hu _=>⟨λhm=>hu ((YB b).1 hm),rfl⟩) (inMap_HR hn hh hlen HS) ⟨by simpa using ha.1,λi hi=> ?_⟩) ?_⟩
 ·obtain⟨u,h1,h2⟩:=ha.2 i (by simpa using hi);rw[List.getElem_map]at h2;exact⟨u,h1,in_VR hh h2⟩
 ·rintro e w' ⟨v,T',I',cv,rfl,hq,hv,hh',hs⟩;refine⟨upV is J.length v,Zp is J.length J T',Zw is J.length M I',cv,rfl,⟨v,T',hq,rfl,rfl⟩,?_,out_HR hlen hn hl hh hs hh',out_step hlen hn hl hh hs⟩;exact VR_up (λk s hk=>by rw[VW hn hl];exact hk) (out_un hn hl hs.res) hs.ex.symm hv
end
end Go.Abs
namespace Go.Abs
variable [Gl]
def XH{α β:Type}(f:α->Option β):List α->Option (List β)
 |[]=>some []
 |x::xs=>match f x,XH f xs with
  |some y,some ys=>some (y::ys)
  |_,_=>none
def X3:Nat->Q4->Nat->Cell->Option T
 |_,_,_,.t x=>some x
 |k+1,J,n,.sl r len cap=>if r.id<n then none else match J.at? r with
  |some o=>if r.off+len*o.es<=o.cs.length then (XH (X3 k J n) ((o.cs.drop r.off).take (len*o.es))).map λts=>.imm ts len cap else none
  |none=>none
 |k+1,J,n,.ptr r=>if r.id<n then none else match J.at? r with
  |some o=>(XH (X3 k J n) (o.cs.drop r.off)).map .iptr
  |none=>none
 |k+1,J,n,.clo f rs=>match Nat.beq f YID with|true=>none|false=>(XH (λr=>X3 k J n (.ptr r)) rs).map λts=>.fn f ts
 |_,_,_,_=>none
def Wk(k:Nat)(J:Q4)(n:Nat):Cell->Option Cell
 |.t x=>some (.t x)
 |.ptr r=>if r.id<n then some (.ptr r) else (X3 k J n (.ptr r)).map .t
 |.sl r len cap=>if r.id<n then some (.sl r len cap) else (X3 k J n (.sl r len cap)).map .t
 |.clo f rs=>if rs.all (λr=>decide (r.id<n)) then some (.clo f rs) else (X3 k J n (.clo f rs)).map .t
def frzP(k:Nat)(J:Q4)(n:Nat):Cell⊕List Cell->Option (Cell⊕List Cell)
 |.inl x=>(Wk k J n x).map .inl
 |.inr xs=>(XH (Wk k J n) xs).map .inr
def jZ(k:Nat)(J:Q4)(n:Nat):AV->Option AV
 |.c x=>(Wk k J n x).map .c
 |.agg xs=>(XH (Wk k J n) xs).map .agg
 |.tup xs=>(XH (frzP k J n) xs).map .tup
def frzO(k:Nat)(J:Q4)(n:Nat)(o:Obj):Option Obj:=(XH (Wk k J n) o.cs).map λcs=>{ o with cs:=cs }
def frzH(k:Nat)(J:Q4)(n:Nat):Option Q4:=XH (frzO k J n) (J.take n)
def cut(n:Nat)(M:Map):Map:=⟨λid=>if id<n then M id else none,M.res,M.ex⟩
section
variable {k n:Nat}{J S':Q4}{M:Map}{w:World}
theorem Yp{α β:Type}{f:α->Option β}:∀{xs:List α} {ys:List β},XH f xs=some ys->ys.length=xs.length/\∀i (hi:i<ys.length) (hi':i<xs.length),f xs[i]=some ys[i]
 |[],ys,h=>by simp only[XH,Option.some.injEq]at h;subst h;exact⟨rfl,λi hi=>absurd hi (by simp)⟩
 |x::xs,ys,h=>by
  simp only[XH]at h;split at h
  ·rename_i y ys' h1 h2;injection h with h;subst h;obtain⟨h3,h4⟩:=Yp h2;refine⟨by simp[h3],λi hi hi'=> ?_⟩
   cases i with
   |zero=>simpa using h1
   |succ i=>simpa using h4 i (by simpa using hi) (by simpa using hi')
  ·cases h
theorem KH{id:Nat}{s:XK}(h:cut n M id=some s):id<n/\M id=some s:=by
 simp only[cut]at h;split at h
 ·rename_i hl;exact⟨hl,h⟩
 ·cases h
theorem cut_un{b:Nat}(h:M.un b):(cut n M).un b:=by
 rintro(⟨id,s,l,h1,h2,rfl⟩|hr)
 ·exact h (.inl ⟨id,s,l,(KH h1).2,h2,rfl⟩)
 ·exact h (.inr hr)
theorem cut_freed(h:HR M J w){id:Nat}{s:XK}{l:Loc}(hid:n<=id)(hs:M id=some s)(hl:s.loc=some l):(cut n M).un l.blk:=by
 rintro(⟨id',s',l',h1,h2,h3⟩|hr)
 ·obtain⟨h4,h5⟩:=KH h1;have:=h.inj id' id s' s l' l h5 hs h2 hl h3;omega
 ·exact h.resNo id s l hs hl hr
theorem cut_ref{r:Ref}{ok:XK->Prop}(hlt:r.id<n)(h:Jg M r ok):Jg (cut n M) r ok:=by obtain⟨s,h1,h2⟩:=h;exact⟨s,by simp only[cut,hlt,if_true];exact h1,h2⟩
theorem Ux(h:HR M J w):∀{k:Nat} {c:Cell} {t:T} {v:Value},CR M w c v->X3 k J n c=some t->TR (cut n M).un w t v
 |k,.t x,t,v,hc,hf=>by have:t=x:=(by cases k<;>(simp only[X3,Option.some.injEq]at hf;exact hf.symm));subst this;exact TR.mono hc λb hb _=>⟨cut_un hb,rfl⟩
 |0,.ptr r,t,v,hc,hf=>by simp[X3]at hf
 |0,.sl r len cap,t,v,hc,hf=>by simp[X3]at hf
 |0,.clo f rs,t,v,hc,hf=>by simp[X3]at hf
 |k+1,.sl r len cap,t,v,hc,hf=>by
  simp only[X3]at hf;split at hf
  ·cases hf
  ·rename_i hid;split at hf
   ·rename_i o ho;split at hf
    ·rename_i hsz;rw[Option.map_eq_some_iff]at hf;obtain⟨ts,hts,rfl⟩:=hf;obtain⟨hl1,hl2⟩:=Yp hts;obtain⟨a,c,rfl,h0,href⟩:=hc;obtain⟨s,hs,_,_,hor,hok⟩:=h.ref ho href;obtain⟨h1,h2,h3⟩:=hok
     cases hloc:s.loc with
     |none=>rw[hloc]at h3;obtain⟨rfl,rfl,_⟩:=h3;have:ts=[]:=List.length_eq_zero_iff.1 (by rw[hl1];simp);subst this;exact .imm0 cap a 0 h2
     |some l=>rw[hloc]at h3;obtain⟨rfl,h4,h5⟩:=h3;have hrow:=((hor.row hloc).drop r.off).take (len*o.es);have hb:=hor.2.2;rw[hloc]at hb;obtain⟨⟨cells,elem,h6,_⟩,_⟩:=hb;obtain⟨g,hg⟩:∃g:Nat->Value,∀i (hi:i<ts.length),w.cell? ⟨l.blk,l.sh+r.off+i,none⟩=some (g i)/\TR (cut n M).un w ts[i] (g i):=(by refine⟨λi=>(w.cell? ⟨l.blk,l.sh+r.off+i,none⟩).getD undef,λi hi=> ?_⟩;obtain⟨u,h7,h8⟩:=hrow i (by rw[<-hl1];exact hi);simp only[h7,Option.getD_some,true_and];exact Ux h h8 (hl2 i hi (by rw[<-hl1];exact hi)));exact .imm ts len cap l.blk (l.sh+r.off) c g (cut_freed h (by omega) hs hloc) ⟨cells,elem,_,h6⟩ h2 h1 (λi hi=>(hg i hi).1) (λi hi=>(hg i hi).2)
    ·cases hf
   ·cases hf
 |k+1,.ptr r,t,v,hc,hf=>by
  simp only[X3]at hf;split at hf
  ·cases hf
  ·rename_i hid;split at hf
   ·rename_i o ho;rw[Option.map_eq_some_iff]at hf;obtain⟨ts,hts,rfl⟩:=hf;obtain⟨hl1,hl2⟩:=Yp hts;obtain⟨a,rfl,href⟩:=hc;obtain⟨s,hs,_,_,hor,l,hloc,e⟩:=h.ref ho href;injection e with e;subst e;have hrow:=(hor.row hloc).drop r.off;have hb:=hor.2.2;rw[hloc]at hb;obtain⟨⟨cells,elem,h6,_⟩,_⟩:=hb;obtain⟨g,hg⟩:∃g:Nat->Value,∀i (hi:i<ts.length),w.cell? ⟨l.blk,l.sh+r.off+i,none⟩=some (g i)/\TR (cut n M).un w ts[i] (g i):=(by refine⟨λi=>(w.cell? ⟨l.blk,l.sh+r.off+i,none⟩).getD undef,λi hi=> ?_⟩;obtain⟨u,h7,h8⟩:=hrow i (by rw[<-hl1];exact hi);simp only[h7,Option.getD_some,true_and];exact Ux h h8 (hl2 i hi (by rw[<-hl1];exact hi)));exact .iptr ts l.blk (l.sh+r.off) g (cut_freed h (by omega) hs hloc) ⟨cells,elem,_,h6⟩ (λi hi=>(hg i hi).1) (λi hi=>(hg i hi).2)
   ·cases hf
 |k+1,.clo f rs,t,v,hc,hf=>by
  simp only[X3]at hf;split at hf
  ·cases hf
  rename_i hy;rw[Option.map_eq_some_iff]at hf;obtain⟨ts,hts,rfl⟩:=hf;obtain⟨hl1,hl2⟩:=Yp hts;obtain⟨arr,rfl,h1,h2⟩:=cloR.no hc (λe=>by subst e;simp at hy);refine .fn f ts arr (by rw[h1,hl1]) λi hi=> ?_;obtain⟨a,h3,h4⟩:=h2 i (by rw[<-hl1];exact hi);exact Ux h (c:=.ptr rs[i]) ⟨a,h3,h4⟩ (hl2 i hi (by rw[<-hl1];exact hi))
theorem qb(h:HR M J w){c c':Cell}{v:Value}(hc:CR M w c v)(hf:Wk k J n c=some c'):CR (cut n M) w c' v:=by
 have tree:∀{c:Cell},CR M w c v->(X3 k J n c).map Cell.t=some c'->CR (cut n M) w c' v:=λ{c} hc hf=>by rw[Option.map_eq_some_iff]at hf;obtain⟨t,h1,rfl⟩:=hf;exact Ux h hc h1
 cases c with
 |t x=>simp only[Wk,Option.some.injEq]at hf;subst hf;exact TR.mono hc λb hb _=>⟨cut_un hb,rfl⟩
 |ptr r=>
  simp only[Wk]at hf;split at hf
  ·rename_i hlt;injection hf with hf;subst hf;obtain⟨a,e,h1⟩:=hc;exact⟨a,e,cut_ref hlt h1⟩
  ·exact tree hc hf
 |sl r len cap=>
  simp only[Wk]at hf;split at hf
  ·rename_i hlt;injection hf with hf;subst hf;obtain⟨a,c,e,h0,h1⟩:=hc;exact⟨a,c,e,h0,cut_ref hlt h1⟩
  ·exact tree hc hf
 |clo f rs=>
  simp only[Wk]at hf;split at hf
  ·rename_i hlt;injection hf with hf;subst hf;refine cloR.imp hc rfl rfl λ_ i hi _ a h4=>cut_ref ?_ h4;rw[List.all_eq_true]at hlt;simpa using hlt rs[i] (List.getElem_mem hi)
  ·exact tree hc hf
theorem frz_agg(h:HR M J w){xs ys:List Cell}{v:Value}(ha:Xj M w xs v)(hf:XH (Wk k J n) xs=some ys):Xj (cut n M) w ys v:=by obtain⟨arr,e,h1,h2⟩:=ha;obtain⟨hl1,hl2⟩:=Yp hf;refine⟨arr,e,by rw[h1,hl1],λi hi=> ?_⟩;obtain⟨u,h3,h4⟩:=h2 i (by rw[<-hl1];exact hi);exact⟨u,h3,qb h h4 (hl2 i hi (by rw[<-hl1];exact hi))⟩
theorem frzV_ok(h:HR M J w){x y:AV}{v:Value}(hv:VR M w x v)(hf:jZ k J n x=some y):VR (cut n M) w y v:=by
 cases x with
 |c x=>simp only[jZ,Option.map_eq_some_iff]at hf;obtain⟨c,h1,rfl⟩:=hf;exact qb h hv h1
 |agg xs=>simp only[jZ,Option.map_eq_some_iff]at hf;obtain⟨c,h1,rfl⟩:=hf;exact frz_agg h hv h1
 |tup xs=>
  simp only[jZ,Option.map_eq_some_iff]at hf;obtain⟨ys,h1,rfl⟩:=hf;obtain⟨hl1,hl2⟩:=Yp h1;obtain⟨arr,e,h2,h3⟩:=hv;refine⟨arr,e,by rw[h2,hl1],λi hi=> ?_⟩;obtain⟨u,h4,h5⟩:=h3 i (by rw[<-hl1];exact hi);refine⟨u,h4,?_⟩;have h6:=hl2 i hi (by rw[<-hl1];exact hi);generalize xs[i]'(by rw[<-hl1];exact hi)=y at h5 h6
  cases y with
  |inl x=>simp only[frzP,Option.map_eq_some_iff]at h6;obtain⟨c,h7,h8⟩:=h6;rw[<-h8];exact qb h h5 h7
  |inr x=>simp only[frzP,Option.map_eq_some_iff]at h6;obtain⟨c,h7,h8⟩:=h6;rw[<-h8];exact frz_agg h h5 h7
theorem frzH_ok(h:HR M J w)(hf:frzH k J n=some S'):HR (cut n M) S' w where
 obj:=λid s hs=>by
  obtain⟨hlt,hs⟩:=KH hs;obtain⟨o,h1,h2,h3,h4⟩:=h.obj id s hs;obtain⟨hl1,hl2⟩:=Yp hf;have hlt2:id<J.length:=(List.getElem?_eq_some_iff.1 h1).1;have hlt3:id<(J.take n).length:=(by rw[List.length_take];omega);have hlt4:id<S'.length:=(by rw[hl1];exact hlt3);have h5:=hl2 id hlt4 hlt3;have ho:(J.take n)[id]=o:=(by rw[List.getElem_take];exact(List.getElem?_eq_some_iff.1 h1).2);rw[ho]at h5;simp only[frzO,Option.map_eq_some_iff]at h5;obtain⟨cs,h6,h7⟩:=h5;obtain⟨hm1,hm2⟩:=Yp h6;refine⟨S'[id],List.getElem?_eq_getElem hlt4,by rw[<-h7];exact h2,by rw[<-h7];exact h3,?_⟩;rw[<-h7]
  cases hl:s.loc with
  |none=>rw[hl]at h4;rw[h4]at hm1;exact List.length_eq_zero_iff.1 (by simpa using hm1)
  |some l=>rw[hl]at h4;refine⟨h4.1,by simp only[hm1];exact h4.2.1,λi hi=> ?_⟩;obtain⟨v,h8,h9⟩:=h4.2.2 i (by rw[<-hm1];exact hi);exact⟨v,h8,qb h h9 (hm2 i hi (by rw[<-hm1];exact hi))⟩
 inj:=λid id' s s' l l' h1 h2 h3 h4 h5=>h.inj id id' s s' l l' (KH h1).2 (KH h2).2 h3 h4 h5
 resRow:=h.resRow
 resNo:=λid s l h1 h2=>h.resNo id s l (KH h1).2 h2
end
end Go.Abs
namespace Go.Abs
variable [Gl]
def Qc(N n:Nat)(r:Q3)(J:Q4)(r':Q3)(S':Q4):Prop:=
 ∀M w a,HR M J w->J3 N M w r a->∃I',HR I' S' w/\J3 N I' w r' a/\∀I0 S0 w0,HR I0 S0 w0->S0.length<=n->Step I0 S0 w0 M J w->Step I0 S0 w0 I' S' w
def J6(r r':Q3):Prop:=∀t v,r'.get t=some v->r.get t=some v
def FrzR(k:Nat)(J:Q4)(n:Nat)(r:Q3):Q3->Prop
 |[]=>True
 |(t,v)::l=>(∃u,r.get t=some u/\jZ k J n u=some v)/\FrzR k J n r l
def SubL(r:Q3):Q3->Prop
 |[]=>True
 |(t,v)::l=>r.get t=some v/\SubL r l
section
variable {P:Program}{N:Nat}{ro:Option Nat}
theorem SubL.sub{r:Q3}:∀{r':Q3},SubL r r'->J6 r r'
 |[],_=>λt v h=>by simp[Q3.get]at h
 |(k,u)::l,h=>λt v ht=>by
  simp only[Q3.get]at ht;split at ht
  ·rename_i e;subst e;injection ht with ht;subst ht;exact h.1
  ·exact SubL.sub h.2 t v ht
theorem FrzR.get{k:Nat}{J:Q4}{n:Nat}{r:Q3}:∀{r':Q3},FrzR k J n r r'->∀t v,r'.get t=some v->∃u,r.get t=some u/\jZ k J n u=some v
 |[],_=>λt v h=>by simp[Q3.get]at h
 |(k,u)::l,h=>λt v ht=>by
  simp only[Q3.get]at ht;split at ht
  ·rename_i e;subst e;injection ht with ht;subst ht;exact h.1
  ·exact FrzR.get h.2 t v ht
theorem KI.f{r r':Q3}{J S':Q4}(h:KI N r J r' S')(n:Nat):Qc N n r J r' S':=λM w a hh hr=>by obtain⟨I',h1,h2,h3⟩:=h M w a hh hr;exact⟨I',h1,h2,λ_ _ _ _ _ hs=>hs.trans h3⟩
theorem Qc.trans{n:Nat}{r r' r'':Q3}{J S' S'':Q4}(h:Qc N n r J r' S')(h':Qc N n r' S' r'' S''):Qc N n r J r'' S'':=λM w a hh hr=>by obtain⟨I',h1,h2,h3⟩:=h M w a hh hr;obtain⟨i'',h4,h5,h6⟩:=h' I' w a h1 h2;exact⟨i'',h4,h5,λI0 S0 w0 h0 hn hs=>h6 I0 S0 w0 h0 hn (h3 I0 S0 w0 h0 hn hs)⟩
theorem KI.trans{r r' r'':Q3}{J S' S'':Q4}(h:KI N r J r' S')(h':KI N r' S' r'' S''):KI N r J r'' S'':=λM w a hh hr=>by obtain⟨I',h1,h2,h3⟩:=h M w a hh hr;obtain⟨i'',h4,h5,h6⟩:=h' I' w a h1 h2;exact⟨i'',h4,h5,h3.trans h6⟩
theorem KI.sub{r r':Q3}{J:Q4}(h:J6 r r'):KI N r J r' J:=λM w _ hh hr=>⟨M,hh,hr.sub h,Step.refl M J w⟩
theorem Vl{r:Q3}{J:Q4}{t:Nat}(es:Nat)(h:r.get t=some (.c (.t (.imm [] 0 (some 0))))):KI N r J (r.set t (.c (.sl ⟨J.length,0,0⟩ 0 none))) (J++[{ cs:=[],es:=es }]):=λM w a hh hr=>by
 have hst:Step M J w (M.push J.length ⟨none,es,0⟩) (J++[{ cs:=[],es:=es }]) w:={
   len:=by simp
   size:=Nat.le_refl _
   os:=rfl
   out:=rfl
   keep:=λid s' hs'=>⟨s',by rw[Map.Qh _ _ (Nat.ne_of_lt (hh.lt hs'))];exact hs',Nat.le_refl _,λ_=>rfl⟩
   none:=λid hid hn=>by rw[Map.Qh _ _ (Nat.ne_of_lt hid)];exact hn
   new:=λid s' l' h1 h2=>by
     by_cases e:id=J.length
     · subst e
       rw[Map.QP]at h1;injection h1 with h1;subst h1;cases h2
     · rw[Map.Qh _ _ e]at h1
       exact .inr ⟨id,s',l',h1,h2,rfl⟩
   res:=rfl
   ex:=rfl
   resKeep:=λ_ _=>rfl
   frame:=λ_ _ _=>rfl }
 refine⟨M.push J.length ⟨none,es,0⟩,⟨λid s h1=> ?_,λid id' s s' l l' h1 h2 h3 h4 h5=> ?_,hh.resRow,λid s l h1 h2 hr=> ?_⟩,⟨hr.size,hr.low,λt' v hv=> ?_,hr.gl.step hst⟩,hst⟩
 · by_cases e1:id=J.length
   · subst e1
     rw[Map.QP]at h1;injection h1 with h1;subst h1;exact⟨_,by simp;rfl,rfl,rfl,rfl⟩
   · rw[Map.Qh _ _ e1]at h1
     obtain⟨o',h2,h3⟩:=hh.obj id s h1;exact⟨o',by rw[List.getElem?_append_left (hh.lt h1)];exact h2,h3.congr hst (λl hl=>rfl)⟩
 · by_cases e1:id=J.length
   · subst e1
     rw[Map.QP]at h1;injection h1 with h1;subst h1;cases h3
   · by_cases e2:id'=J.length
     · subst e2
       rw[Map.QP]at h2;injection h2 with h2;subst h2;cases h4
     · rw[Map.Qh _ _ e1]at h1
       rw[Map.Qh _ _ e2]at h2;exact hh.inj id id' s s' l l' h1 h2 h3 h4 h5
 · by_cases e1:id=J.length
   · subst e1
     rw[Map.QP]at h1;injection h1 with h1;subst h1;cases h2
   · rw[Map.Qh _ _ e1]at h1
     exact hh.resNo id s l h1 h2 hr
 · by_cases e:t=t'
   · subst e
     rw[Q3.QU]at hv;injection hv with hv;subst hv;have hv:=hr.get t _ h
     have ref:∀(ad:Option Addr),Jg (M.push J.length ⟨none,es,0⟩) ⟨J.length,0,0⟩ (slOk 0 0 none ad 0):=λad=>
       ⟨⟨none,es,0⟩,Map.QP _ _ _,Nat.le_refl _,λ_=>⟨Nat.le_refl _,trivial,rfl,rfl,rfl⟩⟩
     have elk:lk (M.push J.length ⟨none,es,0⟩) w a t=lk M w a t:=rfl;rw[elk];have hv':TR M.un w (.imm [] 0 (some 0)) (lk M w a t):=hv;generalize lk M w a t=u at hv'
     cases hv' with
     |imm0 cap ad c hc=>have:c=0:=hc;subst this;exact⟨ad,0,rfl,.inl rfl,ref ad⟩
     |imm cs len cap b off c f h1 h2 h3 h4=>have:c=0:=h3;subst this;exact⟨_,0,rfl,.inl rfl,ref _⟩
   · rw[Q3.Qy _ _ e]at hv
     exact(hr.get t' v hv).step hst
theorem Jl.mono{f:FuncId}{args:List AV}{J:Q4}{Q Q':AV->Q4->Prop}(h:Jl P f args J Q)(hq:∀v S',Q v S'->Q' v S'):Jl P f args J Q':=
 ⟨h.1,λM w cargs hgl hh ha=>CallsIn.mono (h.2 M w cargs hgl hh ha) λe w' ⟨v,S',I',cv,h1,h2,h3⟩=>⟨v,S',I',cv,h1,hq _ _ h2,h3⟩⟩
def Cell.isT:Cell->Bool
 |.t _=>true
 |_=>false
def AV.isT:AV->Bool
 |.c x=>x.isT
 |.agg xs=>xs.all Cell.isT
 |.tup xs=>xs.all fun|.inl x=>x.isT|.inr xs=>xs.all Cell.isT
theorem qq{is:List Nat}{n:Nat}{c:Cell}(h:c.isT=true):upC is n c=c:=by cases c<;>first|rfl|simp[Cell.isT]at h
theorem VO{is:List Nat}{n:Nat}:∀{cs:List Cell},cs.all Cell.isT=true->cs.map (upC is n)=cs
 |[],_=>rfl
 |c::cs,h=>by simp only[List.all_cons,Bool.and_eq_true]at h;simp[qq h.1,VO h.2]
theorem qp{is:List Nat}{n:Nat}{v:AV}(h:v.isT=true):upV is n v=v:=by
 cases v with
 |c x=>simp only[upV,qq h]
 |agg xs=>simp only[upV,VO h]
 |tup xs=>
  simp only[upV];congr 1;have:∀{ys:List (Cell⊕List Cell)},(ys.all fun|.inl x=>x.isT|.inr xs=>xs.all Cell.isT)=true->ys.map (upP is n)=ys:=λ{ys} hy=>by
   induction ys with
   |nil=>rfl
   |cons y ys ih=>
    simp only[List.all_cons,Bool.and_eq_true]at hy;rw[List.map_cons,ih hy.2]
    cases y with
    |inl x=>simp only[upP,qq hy.1]
    |inr xs=>simp only[upP,VO hy.1]
  exact this h
theorem jT{is:List Nat}{n:Nat}:∀{vs:List AV},vs.all AV.isT=true->vs.map (upV is n)=vs
 |[],_=>rfl
 |v::vs,h=>by simp only[List.all_cons,Bool.and_eq_true]at h;simp[qp h.1,jT h.2]
theorem fn_any{f:FuncId}{args:List AV}{J:Q4}{Q:AV->Prop}(ha:args.all AV.isT=true)(h:Jl P f args [] λv S'=>v.isT=true/\S'=[]/\Q v):Jl P f args J λv S'=>Q v/\S'=J:=by have:=Wf (J:=J) (args:=args) [] List.nodup_nil rfl (λk i o hk=>by simp at hk) (jT ha).symm h;refine this.mono λv S' ⟨v0,T',⟨h1,h2,h3⟩,h4,h5⟩=> ?_;subst h2;rw[qp h1]at h4;subst h4;exact⟨h3,by rw[h5];simp[Zp,Jm]⟩
end
end Go.Abs
namespace Go.Abs
variable [Gl]
section
variable {P:Program}{N:Nat}{ro:Option Nat}
end
end Go.Abs
namespace Go.Abs
variable [Gl]
section
variable {P:Program}{N:Nat}{ro:Option Nat}
theorem qB(f:Obj->Obj):∀(is:List Nat) (τ J:Q4),(∀(k i:Nat) (o:Obj),is[k]? =some i->τ[k]? =some o->J[i]? =some (f o))->Jm f is τ J=J
 |[],_,_,_=>by simp[Jm]
 |_::_,[],_,_=>by simp[Jm]
 |i::is,o::τ,J,h=>by have h0:=h 0 i o rfl rfl;have e:J.set i (f o)=J:=(by obtain⟨hlt,he⟩:=List.getElem?_eq_some_iff.1 h0;rw[<-he];exact List.set_getElem_self hlt);simp only[Jm,e];exact qB f is τ J λk i' o' h1 h2=>h (k+1) i' o' h1 h2
theorem const_read{f:FuncId}{args args0:List AV}{J τ:Q4}{v:AV}(is:List Nat)(hn:is.Nodup)(hlen:τ.length=is.length)(HS:∀(n k i:Nat) (o:Obj),is[k]? =some i->τ[k]? =some o->J[i]? =some (upO is n o))
  (hargs:∀n,args=args0.map (upV is n)) (hv:v.isT=true) (h:Jl P f args0 τ λv' S'=>v'=v/\S'=τ):VJ P f args J (is.map (· +1)) v:=λS2 hag=>by
 have HS2:∀(k i:Nat) (o:Obj),is[k]? =some i->τ[k]? =some o->S2[i]? =some (upO is S2.length o):=λk i o h1 h2=>by have:agC S2 J (i+1):=hag _ (List.mem_map.2 ⟨i,List.mem_of_getElem? h1,rfl⟩);exact Eq.trans this (HS S2.length k i o h1 h2)
 refine(Wf (J:=S2) is hn hlen HS2 (hargs S2.length) h).mono λv' S' ⟨v0,T',⟨h1,h2⟩,h3,h4⟩=> ?_;subst h1;subst h2;rw[qp hv]at h3;refine⟨h3,?_⟩;rw[h4,Zp,qB _ _ _ _ HS2];have:List.drop is.length T'=[]:=List.drop_eq_nil_iff.2 (by omega);simp[this]
end
end Go.Abs
namespace Go.Abs
variable [Gl]
section
variable (P:Program)(r:Q3)(J:Q4)(K:Option AV->Q4->List Nat->List Nat->Prop)(tg:Tag K)
end
end Go.Abs
namespace Go.Abs
variable [Gl]
section
variable {P:Program}
end
end Go.Abs
