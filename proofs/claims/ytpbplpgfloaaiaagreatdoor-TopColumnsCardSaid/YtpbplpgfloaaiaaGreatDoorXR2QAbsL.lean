/- A part of the proof. -/
import Derived.Test.YtpbplpgfloaaiaaGreatDoorXR2QMa
set_option linter.all false
namespace Go.Abs
variable [Gl]
section
variable {P:Program}{r:Q3}{J τ S':Q1}{res:Option AV}
theorem light{f:Q1->Option (Option AV×Q1)}{g:Option (Option AV)}(hf:∀J,f J=g.map λv=>(v,J))(h:f J=some (res,S')):∃T',f τ=some (res,T')/\JQ τ T' J S' []:=by
 rw[hf]at h
 cases g with
 |none=>simp at h
 |some v=>simp only[AD,X3,A0]at h;obtain⟨rfl,rfl⟩:=h;exact⟨τ,by rw[hf];rfl,JQ.none⟩
theorem storeE_same{i:Qj}{a v:AV}(h:X2 J i a v=some S')(hag:∀c∈J1 (some a),agC τ J c):∃T',X2 τ i a v=some T'/\JQ τ T' J S' (J1 (some a)):=by
 unfold X2 at h⊢;split at h
 ·rename_i p;have hp:=hag (p.id+1) (by simp[J1]);simp only[Jl hp];split at h
  ·rename_i o ho;split at h
   ·rename_i hc;injection h with h;subst h;refine⟨_,by rw[AF hc],?_⟩;exact JQ.setAt _ hp
   ·cases h
  ·cases h
 ·cases h
theorem Y2{t:TypeId}{l c y:AV}(h:Qp P J t l c=some (y,S'))(hl:τ.length=J.length):S'.length=J.length+1/\∃T',Qp P τ t l c=some (y,T')/\JQ τ T' J S' [0,J.length+1]:=by
 unfold Qp at h⊢;split at h
 ·rename_i i n m e1 e2 e3;try simp only[e1,e2,e3]
  split at h
  ·rename_i e he;try simp only[he]
   split at h
   ·rename_i j hj;try simp only[hj]
    split at h
    ·rename_i z hz;split at h
     ·rename_i hc;rw[AF hc];injection h with h;injection h with h1 h2;subst h1;subst h2;exact⟨by simp,_,by rw[hl],JQ.push _ hl⟩
     ·cases h
    ·cases h
   ·cases h
  ·cases h
 ·cases h
theorem buildSliceE_same{b:Bool}{t:TypeId}{n:Nat}{ps:List (Nat×AV)}{y:AV}(h:JB P b J t n ps=some (y,S')):
  (S'=J/\∀τ,JB P b τ t n ps=some (y,τ))\/(S'.length≠J.length/\∀τ,τ.length=J.length->∃T',JB P b τ t n ps=some (y,T')/\JQ τ T' J S' [0,J.length+1]):=by
 unfold JB at h⊢;split at h
 ·rename_i i e1;try simp only[e1]
  split at h
  ·rename_i e he;try simp only[he]
   split at h
   ·rename_i j hj;try simp only[hj]
    split at h
    ·rename_i z hz;split at h
     ·rename_i hc;split at h
      ·rename_i cs hcs;try simp only[hcs]
       cases hts:objT b cs with
       |some ts=>rw[hts]at h;injection h with h;injection h with h1 h2;subst h1;subst h2;exact .inl ⟨rfl,fun τ=>by rw[AF hc]⟩
       |none=>rw[hts]at h;injection h with h;injection h with h1 h2;subst h1;subst h2;refine .inr ⟨by simp,fun τ hl=>⟨_,by rw[AF hc];simp only[hcs,hts,hl],JQ.push _ hl⟩⟩
      ·cases h
     ·cases h
    ·cases h
   ·cases h
  ·cases h
 ·cases h
theorem appendE_same{t:TypeId}{s x y:AV}(h:JC P J t s x=some (y,S'))(hs:∀c∈J1 (some s),agC τ J c)(hx:∀c∈J1 (some x),agC τ J c):
  (S'.length=J.length/\∃T',JC P τ t s x=some (y,T')/\JQ τ T' J S' (J1 (some s)))\/(S'.length≠J.length/\(τ.length=J.length->∃T',JC P τ t s x=some (y,T')/\JQ τ T' J S' [0,J.length+1])):=by
 have refl':∀ws,(∀c∈ws,agC τ J c)->JQ τ τ J J ws:=λws hw=>⟨λc _=>agC.refl τ c,hw,λc _=>agC.refl J c⟩;unfold JC at h⊢;split at h
 ·rename_i i e1;try simp only[e1]
  split at h
  ·rename_i e he;try simp only[he]
   split at h
   ·rename_i j hj;try simp only[hj]
    split at h
    ·rename_i z m hz hm;try simp only[hz,hm]
     split at h
     ·rename_i hc;rw[AF hc];rw[Ke hx];split at h
      ·rename_i new hnew;try simp only[hnew]
       split at h
       ·rename_i cs len c;split at h
        ·rename_i hc2;rw[AF hc2];split at h
         ·injection h with h;injection h with h1 h2;subst h1;subst h2;rename_i hm0;exact .inl ⟨rfl,τ,by rw[AF hm0],refl' _ hs⟩
         ·rename_i hm0;injection h with h;injection h with h1 h2;subst h1;subst h2;exact .inr ⟨by simp,λhl=>⟨_,by rw[AP hm0,hl],JQ.push _ hl⟩⟩
        ·cases h
       ·rename_i p len;have hp:=hs (p.id+1) (by simp[J1]);simp only[Jl hp];split at h
        ·rename_i o ho;try simp only[ho]
         split at h
         ·rename_i hc2;rw[AF hc2];injection h with h;injection h with h1 h2;subst h1;subst h2;exact .inl ⟨by simp,_,rfl,JQ.setAt _ hp⟩
         ·cases h
        ·cases h
       ·rename_i p len c;have hp:=hs (p.id+1) (by simp[J1]);simp only[Jl hp];split at h
        ·rename_i o ho;try simp only[ho]
         split at h
         ·rename_i hc2;rw[AF hc2];injection h with h;injection h with h1 h2;subst h1;subst h2;exact .inl ⟨by simp,_,rfl,JQ.setAt _ hp⟩
         ·rename_i hc2;rw[AP hc2];split at h
          ·rename_i hc3;rw[AF hc3];injection h with h;injection h with h1 h2;subst h1;subst h2;exact .inr ⟨by simp,λhl=>⟨_,by rw[hl],JQ.push _ hl⟩⟩
          ·cases h
        ·cases h
       ·cases h
      ·cases h
     ·cases h
    ·cases h
   ·cases h
  ·cases h
 ·cases h
theorem YX{op:Op}{x:DR}{rs ws:List Nat}(h:(opE P r J op).map (λx=>newD J x [])=some x)(hx:x=(res,S',rs,ws)){τ:Q1}(hag:∀c∈rs,agC τ J c)
  (hh:∀res S',opE P r J op=some (res,S')->(S'=J/\∀τ,opE P r τ op=some (res,τ))\/(S'.length≠J.length/\∀τ,τ.length=J.length->∃T',opE P r τ op=some (res,T')/\JQ τ T' J S' [0,J.length+1])):
  opE P r J op=some (res,S')/\∃T',opE P r τ op=some (res,T')/\JQ τ T' J S' ws:=by
 subst hx;rw[WF]at h;obtain⟨⟨a,b⟩,h1,h2⟩:=h;unfold newD at h2;split at h2
 ·rename_i hl;simp only[A0]at h2;obtain⟨rfl,rfl,rfl,rfl⟩:=h2;refine⟨h1,?_⟩;rcases hh a b h1 with ⟨h3,h4⟩|⟨h3,_⟩
  ·subst h3;exact⟨τ,h4 τ,JQ.none⟩
  ·exact absurd hl h3
 ·rename_i hl;simp only[A0]at h2;obtain⟨rfl,rfl,rfl,rfl⟩:=h2;refine⟨h1,?_⟩;rcases hh a b h1 with ⟨h3,h4⟩|⟨_,h4⟩
  ·subst h3;exact absurd rfl hl
  ·exact h4 τ (hag 0 (by simp))
theorem copyE_same{t:TypeId}{d x y:AV}(h:Wl P J t d x=some (y,S'))(hs:∀c∈J1 (some d),agC τ J c)(hx:∀c∈J1 (some x),agC τ J c):
  ∃T',Wl P τ t d x=some (y,T')/\JQ τ T' J S' (J1 (some d)):=by
 unfold Wl at h⊢;split at h
 ·rename_i i e1;try simp only[e1]
  split at h
  ·rename_i e he;try simp only[he]
   split at h
   ·rename_i j hj;try simp only[hj]
    split at h
    ·rename_i p len cp m hm;try simp only[hm]
     have hp:=hs (p.id+1) (by simp[J1]);simp only[Jl hp];rw[Ke hx];split at h
     ·rename_i o new ho hnew;try simp only[ho,hnew]
      split at h
      ·rename_i hc2;rw[AF hc2];injection h with h;injection h with h1 h2;subst h1;subst h2;exact⟨_,rfl,JQ.setAt _ hp⟩
      ·cases h
     ·cases h
    ·rename_i m hm;try simp only[hm]
     injection h with h;injection h with h1 h2;subst h1;subst h2;exact⟨τ,rfl,JQ.none⟩
    ·cases h
   ·cases h
  ·cases h
 ·cases h
end
end Go.Abs
